/-
  The functions do what their models say. Printed by wip/ab/gen.py.
-/
import Derived.Test.YtlmanchbpommaaaGreatModK
import Derived.Test.YtlmanchbpommaaaGreatTi2
import Derived.Test.YtlmanchbpommaaaGreatWlkJ
namespace Go.Proofs.YtlmanchbpommaaaGreat.Ab
set_option linter.unusedVariables false
set_option linter.unusedSimpArgs false
set_option maxRecDepth 20000
set_option maxHeartbeats 4000000
open Go.RowKit

theorem s_l34Own_l2_all (n : Nat) : (∀ (a0 : Queue) (p1_0 : List Job) (p1_1 : Int) (r : Queue), s_l34Own_l2 n a0 p1_0 p1_1 = some r → posF Tryz.prog Tryz.f66 [1, 1, 0, 1, 0] (.agg (Queue.rv r)) ⟨[(0, .rop [.int .i64 a0.quantum, .int .i64 a0.nextId, .int .i64 a0.turn, .ro (List.map Job.ds a0.jobs)] 0), (2, .box 1000001500 0), (3, .box 1000001501 0), (4, .int .i64 p1_1)], [(1000001000, some ⟨List.map Job.ds p1_0, some 10, 0⟩)], [(1000001500, some [.int .i64 0, .int .i64 0, .int .i64 0, .nils]), (1000001501, some [.int .i64 a0.quantum, .int .i64 a0.nextId, .int .i64 a0.turn, .own 1000001000])]⟩) := by
  induction n with
  | zero => exact ((fun _ _ _ _ h => by rw [s_l34Own_l2] at h; cases h))
  | succ n ih =>
    have ih0 := ih
    · intro a0 p1_0 p1_1 r h
      rw [s_l34Own_l2] at h
      refine posF_of rfl rfl ?_
      try simp only [go_sem]
      refine loop_i ?_
      try simp only [go_sem]
      refine cond_i (fun hb1 => ?_) (fun hb1 => ?_)
      · replace h := ifT (c := (decide (p1_1 < ((List.length a0.jobs : Nat) : Int)))) hb1 h
        try simp only [go_sem]
        refine seq_go ?_
        try simp only [go_sem]
        refine draw_i [false, false, false, false, false, false, false, false, false, false, true, true, true] (Tr.sq [10, 11, 12] .fin) (by kernel_rfl) ?_
        try simp only [go_sem]
        replace h := bindE h
        obtain ⟨v6007, hv6007, h⟩ := h
        refine idx_m hv6007 (Job.ds_len _) ?_
        try simp only [go_sem]
        replace h := bindE h
        obtain ⟨v6008, hv6008, h⟩ := h
        refine call_i (s_l34OwnJob_ok _ _ hv6008) ?_
        try simp only [go_sem]
        replace h := bindE h
        obtain ⟨v6010, hv6010, h⟩ := h
        have hq_ := app_some hv6010
        obtain ⟨hv6010a, hv6010b⟩ := hq_
        refine and_i (by refine ⟨?_, ?_⟩ <;> (try simp only [List.length_map, List.length_append, List.length_cons, List.length_nil] at *) <;> (try unfold maxLen) <;> omega) ?_
        try simp only [go_sem]
        refine row_i (List.map Job.ds v6010) (by rw [← hv6010b]; simp only [List.map_append, List.map_cons, List.map_nil, List.nil_append, List.append_nil, go_sem, Job.ds_eq]) ?_
        try simp only [go_sem]
        refine seq_go ?_
        try simp only [go_sem]
        have hj := posF_to rfl rfl (ih0 a0 v6010 (IntKind.i64.wrap (p1_1 + 1)) _ h)
        refine lp_to hj (.one ⟨_, .done _, [(1000001000, 96160)], [(1000001500, 1000001500), (1000001501, 1000001501)], ?_⟩)
        clear hj
        try simp only [go_sem]
      · replace h := ifF (c := (decide (p1_1 < ((List.length a0.jobs : Nat) : Int)))) hb1 h
        try simp only [go_sem]
        refine seq_go ?_
        try simp only [go_sem]
        replace h := Option.some.inj h
        obtain rfl := h
        simp only [go_sem]
theorem s_l34Own_l2_ok (n : Nat) : (∀ (a0 : Queue) (p1_0 : List Job) (p1_1 : Int) (r : Queue), s_l34Own_l2 n a0 p1_0 p1_1 = some r → posF Tryz.prog Tryz.f66 [1, 1, 0, 1, 0] (.agg (Queue.rv r)) ⟨[(0, .rop [.int .i64 a0.quantum, .int .i64 a0.nextId, .int .i64 a0.turn, .ro (List.map Job.ds a0.jobs)] 0), (2, .box 1000001500 0), (3, .box 1000001501 0), (4, .int .i64 p1_1)], [(1000001000, some ⟨List.map Job.ds p1_0, some 10, 0⟩)], [(1000001500, some [.int .i64 0, .int .i64 0, .int .i64 0, .nils]), (1000001501, some [.int .i64 a0.quantum, .int .i64 a0.nextId, .int .i64 a0.turn, .own 1000001000])]⟩) := (s_l34Own_l2_all n)

theorem s_l34Own_ok (a0 : Queue) (r : Queue) (h : s_l34Own a0 = some r) : AC Tryz.prog 66 [.rop (Queue.avs a0) 0] (.agg (Queue.rv r)) := by
  unfold s_l34Own at h
  refine ac_fn mixed Tryz.func66 rfl rfl rfl (by kernel_rfl) (by kernel_rfl) ?_
  try simp only [go_sem]
  refine draw_i [false, false, false, false, false, false, false, false, false, false, false, false, false, false, true] (Tr.sq [14] .fin) (by kernel_rfl) ?_
  try simp only [go_sem]
  refine seq_go ?_
  try simp only [go_sem]
  have hj := posF_to rfl rfl (s_l34Own_l2_ok fuel a0 [] 0 _ h)
  refine loop_to hj (.one ⟨_, .cell 2013 3 2000000000 (some 10) _ (by simp only [go_sem]; rfl) (by rfl) (by simp only [go_sem]) (.done _), [(1000001000, 2000000000)], [(1000001500, 1000), (1000001501, 2013)], ?_⟩)
  clear hj
  simp only [go_sem]
  all_goals try rfl
theorem s_l34End_ok (a0 : List Job) (a0i : Int) (a1 : Int) (a2 : Int) (a3 : Net) (z1 : Option Nat) (r : (List Job)) (h : s_l34End a0 a0i a1 a2 a3 = some r) : AG Tryz.prog 67 [.elt 1 10 (Int.toNat a0i) 0, .int .i64 a1, .int .i64 a2, .agg [.own 1001]] [(1, ⟨List.map Job.ds a0, z1, 0⟩), (1001, ⟨List.map Agent.ds a3.agents, some 5, 0⟩)] [] (.tup []) [(1, ⟨List.map Job.ds r, z1, 3⟩)] [] := by
  unfold s_l34End at h
  refine ag_fn mixed Tryz.func67 rfl rfl rfl (by kernel_rfl) (by kernel_rfl) ?_
  try simp only [go_sem]
  replace h := bindE h
  obtain ⟨v2004_1, hv2004_1, h⟩ := h
  replace h := bindE h
  obtain ⟨v2004_2, hv2004_2, h⟩ := h
  refine opt_i (row_m hv2004_1) ?_
  try simp only [go_sem]
  refine row_i (List.map Job.ds v2004_2) (by rw [← set1_some hv2004_2]; simp only [List.map_set, go_sem, Job.ds_eq]) ?_
  try simp only [go_sem]
  replace h := bindE h
  obtain ⟨v3004_3, hv3004_3, h⟩ := h
  replace h := bindE h
  obtain ⟨v3004_4, hv3004_4, h⟩ := h
  refine opt_i (row_m hv3004_3) ?_
  try simp only [go_sem]
  refine row_i (List.map Job.ds v3004_4) (by rw [← set1_some hv3004_4]; simp only [List.map_set, go_sem, Job.ds_eq]) ?_
  try simp only [go_sem]
  replace h := bindE h
  obtain ⟨v4003_5, hv4003_5, h⟩ := h
  replace h := bindE h
  obtain ⟨v4003_6, hv4003_6, h⟩ := h
  refine opt_i (row_m hv4003_5) ?_
  try simp only [go_sem]
  refine row_i (List.map Job.ds v4003_6) (by rw [← set1_some hv4003_6]; simp only [List.map_set, go_sem, Job.ds_eq]) ?_
  try simp only [go_sem]
  replace h := bindE h
  obtain ⟨v5003_7, hv5003_7, h⟩ := h
  replace h := bindE h
  obtain ⟨v5003_8, hv5003_8, h⟩ := h
  refine opt_i (row_m hv5003_7) ?_
  try simp only [go_sem]
  refine row_i (List.map Job.ds v5003_8) (by rw [← set1_some hv5003_8]; simp only [List.map_set, go_sem, Job.ds_eq]) ?_
  try simp only [go_sem]
  replace h := bindE h
  obtain ⟨v6004_9, hv6004_9, h⟩ := h
  replace h := bindE h
  obtain ⟨v6004_10, hv6004_10, h⟩ := h
  refine opt_i (row_m hv6004_9) ?_
  try simp only [go_sem]
  refine row_i (List.map Job.ds v6004_10) (by rw [← set1_some hv6004_10]; simp only [List.map_set, go_sem, Job.ds_eq]) ?_
  try simp only [go_sem]
  replace h := Option.some.inj h
  obtain rfl := h
  refine ret_i (.done _) [(1, 1)] [] ?_
  simp only [go_sem]
theorem s_CancelJob_j2_ok (a0 : Queue) (v2001 : Int × Int) (p1_0 : Int) (r : Queue × Int) (h : s_CancelJob_j2 a0 v2001 p1_0 = some r) : posF Tryz.prog Tryz.f19 [1, 1, 1] (.tup [.agg (Queue.rv r.1), .int .i64 r.2]) ⟨[(2, .box 1000001500 0), (4, .box 1000001501 0), (6, .int .i64 v2001.1), (7, .int .i64 p1_0)], [], [(1000001500, some [.int .i64 a0.quantum, .int .i64 a0.nextId, .int .i64 a0.turn, .ro (List.map Job.ds a0.jobs)]), (1000001501, some [.int .i64 0, .int .i64 0, .int .i64 0, .nils])]⟩ := by
  unfold s_CancelJob_j2 at h
  refine posF_of rfl rfl ?_
  try simp only [go_sem]
  refine cond_i (fun hb2 => ?_) (fun hb2 => ?_)
  · replace h := ifT (c := (!decide (p1_0 = 0))) hb2 h
    try simp only [go_sem]
    replace h := Option.some.inj h
    obtain rfl := h
    simp only [go_sem]
  · replace h := ifF (c := (!decide (p1_0 = 0))) hb2 h
    try simp only [go_sem]
    refine seq_go ?_
    try simp only [go_sem]
    replace h := bindE h
    obtain ⟨v7000, hv7000, h⟩ := h
    refine call_i (s_l34Own_ok _ _ hv7000) ?_
    try simp only [go_sem]
    replace h := bindE h
    obtain ⟨v8003, hv8003, h⟩ := h
    refine idx_m hv8003 (Job.ds_len _) ?_
    try simp only [go_sem]
    replace h := bindE h
    obtain ⟨v8005, hv8005, h⟩ := h
    refine call_g ⟨[(3000128080, .nils, some 5)], [(1, 112000), (1001, 3000128080)], [], [], [], true⟩ (by kernel_rfl) (s_l34End_ok _ _ _ _ _ (some 10) _ hv8005) (by kernel_rfl) ?_
    try simp only [go_sem]
    replace h := Option.some.inj h
    obtain rfl := h
    simp only [go_sem]
theorem s_CancelJob_j1_ok (a0 : Queue) (v2001 : Int × Int) (p0_0 : Bool) (r : Queue × Int) (h : s_CancelJob_j1 a0 v2001 p0_0 = some r) : posF Tryz.prog Tryz.f19 [1, 1, 0, 1] (.tup [.agg (Queue.rv r.1), .int .i64 r.2]) ⟨[(2, .box 1000000500 0), (4, .box 1000000501 0), (6, .int .i64 v2001.1), (7, .int .i64 v2001.2), (24, .bool p0_0)], [], [(1000000500, some [.int .i64 a0.quantum, .int .i64 a0.nextId, .int .i64 a0.turn, .ro (List.map Job.ds a0.jobs)]), (1000000501, some [.int .i64 0, .int .i64 0, .int .i64 0, .nils])]⟩ := by
  unfold s_CancelJob_j1 at h
  refine posF_of rfl rfl ?_
  try simp only [go_sem]
  refine cond_i (fun hb3 => ?_) (fun hb3 => ?_)
  · replace h := ifT (c := p0_0) hb3 h
    try simp only [go_sem]
    have hj := posF_to rfl rfl (s_CancelJob_j2_ok a0 v2001 5 _ h)
    refine seq_to hj (.one ⟨_, .done _, [], [(1000001500, 1000000500), (1000001501, 1000000501)], ?_⟩)
    clear hj
    try simp only [go_sem]
  · replace h := ifF (c := p0_0) hb3 h
    try simp only [go_sem]
    have hj := posF_to rfl rfl (s_CancelJob_j2_ok a0 v2001 v2001.2 _ h)
    refine seq_to hj (.one ⟨_, .done _, [], [(1000001500, 1000000500), (1000001501, 1000000501)], ?_⟩)
    clear hj
    try simp only [go_sem]
theorem s_CancelJob_ok (a0 : Queue) (a1 : Int) (r : Queue × Int) (h : s_CancelJob a0 a1 = some r) : AC Tryz.prog 19 [.agg (Queue.avs a0), .int .i64 a1] (.tup [.agg (Queue.rv r.1), .int .i64 r.2]) := by
  unfold s_CancelJob at h
  refine ac_fn mixed Tryz.func19 rfl rfl rfl (by kernel_rfl) (by kernel_rfl) ?_
  try simp only [go_sem]
  replace h := bindE h
  obtain ⟨v2001, hv2001, h⟩ := h
  refine call_i (s_l34Asked_ok _ _ _ hv2001) ?_
  try simp only [go_sem]
  refine cond_i (fun hb1 => ?_) (fun hb1 => ?_)
  · replace h := ifT (c := (decide (v2001.2 = 0))) hb1 h
    try simp only [go_sem]
    replace h := bindE h
    obtain ⟨v3006, hv3006, h⟩ := h
    refine idx_m hv3006 (Job.ds_len _) ?_
    try simp only [go_sem]
    have hj := posF_to rfl rfl (s_CancelJob_j1_ok a0 v2001 (!decide (v3006.state = 1)) _ h)
    refine seq_to hj (.one ⟨_, .done _, [], [(1000000500, 1000), (1000000501, 1001)], ?_⟩)
    clear hj
    try simp only [go_sem]
  · replace h := ifF (c := (decide (v2001.2 = 0))) hb1 h
    try simp only [go_sem]
    have hj := posF_to rfl rfl (s_CancelJob_j1_ok a0 v2001 false _ h)
    refine seq_to hj (.one ⟨_, .done _, [], [(1000000500, 1000), (1000000501, 1001)], ?_⟩)
    clear hj
    try simp only [go_sem]
theorem i_copyQueue_l2_all (n : Nat) : (∀ (a0 : Queue) (p1_0 : List Job) (p1_1 : Int) (r : Queue), i_copyQueue_l2 n a0 p1_0 p1_1 = some r → posF Tryz.prog Tryz.f68 [1, 1, 1, 0, 1, 0] (.agg (Queue.rv r)) ⟨[(1, .box 1000001500 0), (2, .box 1000001501 0), (9, .ro (List.map Job.ds a0.jobs)), (10, .int .i64 ((List.length a0.jobs : Nat) : Int)), (11, .int .i64 p1_1)], [(1000001000, some ⟨List.map Job.ds p1_0, some 10, 0⟩)], [(1000001500, some [.int .i64 a0.quantum, .int .i64 a0.nextId, .int .i64 a0.turn, .own 1000001000]), (1000001501, some [.int .i64 0, .int .i64 0, .int .i64 0, .nils])]⟩) := by
  induction n with
  | zero => exact ((fun _ _ _ _ h => by rw [i_copyQueue_l2] at h; cases h))
  | succ n ih =>
    have ih0 := ih
    · intro a0 p1_0 p1_1 r h
      rw [i_copyQueue_l2] at h
      refine posF_of rfl rfl ?_
      try simp only [go_sem]
      refine loop_i ?_
      try simp only [go_sem]
      refine cond_i (fun hb1 => ?_) (fun hb1 => ?_)
      · replace h := ifT (c := (decide (p1_1 < ((List.length a0.jobs : Nat) : Int)))) hb1 h
        try simp only [go_sem]
        refine seq_go ?_
        try simp only [go_sem]
        replace h := bindE h
        obtain ⟨v6000, hv6000, h⟩ := h
        refine idx_m hv6000 (Job.ds_len _) ?_
        try simp only [go_sem]
        refine draw_i [false, false, false, false, false, true, true, true] (Tr.sq [5, 6, 7] .fin) (by kernel_rfl) ?_
        try simp only [go_sem]
        replace h := bindE h
        obtain ⟨v7003, hv7003, h⟩ := h
        refine call_i (i_copyJob_ok _ _ hv7003) ?_
        try simp only [go_sem]
        replace h := bindE h
        obtain ⟨v7005, hv7005, h⟩ := h
        have hq_ := app_some hv7005
        obtain ⟨hv7005a, hv7005b⟩ := hq_
        refine and_i (by refine ⟨?_, ?_⟩ <;> (try simp only [List.length_map, List.length_append, List.length_cons, List.length_nil] at *) <;> (try unfold maxLen) <;> omega) ?_
        try simp only [go_sem]
        refine row_i (List.map Job.ds v7005) (by rw [← hv7005b]; simp only [List.map_append, List.map_cons, List.map_nil, List.nil_append, List.append_nil, go_sem, Job.ds_eq]) ?_
        try simp only [go_sem]
        refine seq_go ?_
        try simp only [go_sem]
        have hj := posF_to rfl rfl (ih0 a0 v7005 (IntKind.i64.wrap (p1_1 + 1)) _ h)
        refine lp_to hj (.one ⟨_, .done _, [(1000001000, 112080)], [(1000001500, 1000001500), (1000001501, 1000001501)], ?_⟩)
        clear hj
        try simp only [go_sem]
      · replace h := ifF (c := (decide (p1_1 < ((List.length a0.jobs : Nat) : Int)))) hb1 h
        try simp only [go_sem]
        refine seq_go ?_
        try simp only [go_sem]
        replace h := Option.some.inj h
        obtain rfl := h
        simp only [go_sem]
theorem i_copyQueue_l2_ok (n : Nat) : (∀ (a0 : Queue) (p1_0 : List Job) (p1_1 : Int) (r : Queue), i_copyQueue_l2 n a0 p1_0 p1_1 = some r → posF Tryz.prog Tryz.f68 [1, 1, 1, 0, 1, 0] (.agg (Queue.rv r)) ⟨[(1, .box 1000001500 0), (2, .box 1000001501 0), (9, .ro (List.map Job.ds a0.jobs)), (10, .int .i64 ((List.length a0.jobs : Nat) : Int)), (11, .int .i64 p1_1)], [(1000001000, some ⟨List.map Job.ds p1_0, some 10, 0⟩)], [(1000001500, some [.int .i64 a0.quantum, .int .i64 a0.nextId, .int .i64 a0.turn, .own 1000001000]), (1000001501, some [.int .i64 0, .int .i64 0, .int .i64 0, .nils])]⟩) := (i_copyQueue_l2_all n)

theorem i_copyQueue_ok (a0 : Queue) (r : Queue) (h : i_copyQueue a0 = some r) : AC Tryz.prog 68 [.agg (Queue.avs a0)] (.agg (Queue.rv r)) := by
  unfold i_copyQueue at h
  refine ac_fn mixed Tryz.func68 rfl rfl rfl (by kernel_rfl) (by kernel_rfl) ?_
  try simp only [go_sem]
  have hj := posF_to rfl rfl (i_copyQueue_l2_ok fuel a0 [] 0 _ h)
  refine loop_to hj (.one ⟨_, .cell 1000 3 2000000000 (some 10) _ (by simp only [go_sem]; rfl) (by rfl) (by simp only [go_sem]) (.done _), [(1000001000, 2000000000)], [(1000001500, 1000), (1000001501, 1001)], ?_⟩)
  clear hj
  simp only [go_sem]
  all_goals try rfl
theorem i_Job_end_ok (a0 : List Job) (a0i : Int) (a1 : Int) (a2 : Int) (a3 : Net) (z1 : Option Nat) (r : (List Job)) (h : i_Job_end a0 a0i a1 a2 a3 = some r) : AG Tryz.prog 69 [.elt 1 10 (Int.toNat a0i) 0, .int .i64 a1, .int .i64 a2, .agg [.own 1001]] [(1, ⟨List.map Job.ds a0, z1, 0⟩), (1001, ⟨List.map Agent.ds a3.agents, some 5, 0⟩)] [] (.tup []) [(1, ⟨List.map Job.ds r, z1, 3⟩)] [] := by
  unfold i_Job_end at h
  refine ag_fn mixed Tryz.func69 rfl rfl rfl (by kernel_rfl) (by kernel_rfl) ?_
  try simp only [go_sem]
  refine draw_i [false, false, false, false, false, false, false, true, true, true, true, true, true, true, true, true, true, true, true, true, true, true, true] (.br 7 (Tr.sq [8, 9, 10, 11, 12, 13, 14, 15, 16, 17, 18, 19, 20, 21, 22] .fin) (.br 8 (Tr.sq [9] (.br 7 (Tr.sq [10, 11, 12, 13, 14, 15, 16, 17, 18, 19, 20, 21, 22] .fin) (.br 10 (.br 7 (Tr.sq [11, 12, 13, 14, 15, 16, 17, 18, 19, 20, 21, 22] .fin) (.br 11 (Tr.sq [12] (.br 7 (Tr.sq [13, 14, 15, 16, 17, 18, 19, 20, 21, 22] .fin) (.br 13 (.br 7 (Tr.sq [14, 15, 16, 17, 18, 19, 20, 21, 22] .fin) (.br 14 (Tr.sq [15] (.br 7 (Tr.sq [16, 17, 18, 19, 20, 21, 22] .fin) (.br 16 (.br 7 (Tr.sq [17, 18, 19, 20, 21, 22] .fin) (.br 17 (Tr.sq [18] (.br 7 (Tr.sq [19, 20, 21, 22] .fin) (.br 19 (Tr.sq [7, 20, 21, 22] .fin) .stop))) .stop)) .stop))) .stop)) .stop))) .stop)) .stop))) .stop)) (by kernel_rfl) ?_
  try simp only [go_sem]
  refine alt_i ?_ ?_
  · try simp only [go_sem]
    replace h := bindE h
    obtain ⟨v2010_1, hv2010_1, h⟩ := h
    replace h := bindE h
    obtain ⟨v2010_2, hv2010_2, h⟩ := h
    refine opt_i (row_m hv2010_1) ?_
    try simp only [go_sem]
    refine row_i (List.map Job.ds v2010_2) (by rw [← set1_some hv2010_2]; simp only [List.map_set, go_sem, Job.ds_eq]) ?_
    try simp only [go_sem]
    replace h := bindE h
    obtain ⟨v2013_3, hv2013_3, h⟩ := h
    replace h := bindE h
    obtain ⟨v2013_4, hv2013_4, h⟩ := h
    refine opt_i (row_m hv2013_3) ?_
    try simp only [go_sem]
    refine row_i (List.map Job.ds v2013_4) (by rw [← set1_some hv2013_4]; simp only [List.map_set, go_sem, Job.ds_eq]) ?_
    try simp only [go_sem]
    replace h := bindE h
    obtain ⟨v2016_5, hv2016_5, h⟩ := h
    replace h := bindE h
    obtain ⟨v2016_6, hv2016_6, h⟩ := h
    refine opt_i (row_m hv2016_5) ?_
    try simp only [go_sem]
    refine row_i (List.map Job.ds v2016_6) (by rw [← set1_some hv2016_6]; simp only [List.map_set, go_sem, Job.ds_eq]) ?_
    try simp only [go_sem]
    replace h := bindE h
    obtain ⟨v2019_7, hv2019_7, h⟩ := h
    replace h := bindE h
    obtain ⟨v2019_8, hv2019_8, h⟩ := h
    refine opt_i (row_m hv2019_7) ?_
    try simp only [go_sem]
    refine row_i (List.map Job.ds v2019_8) (by rw [← set1_some hv2019_8]; simp only [List.map_set, go_sem, Job.ds_eq]) ?_
    try simp only [go_sem]
    replace h := bindE h
    obtain ⟨v2022_9, hv2022_9, h⟩ := h
    replace h := bindE h
    obtain ⟨v2022_10, hv2022_10, h⟩ := h
    refine opt_i (row_m hv2022_9) ?_
    try simp only [go_sem]
    refine row_i (List.map Job.ds v2022_10) (by rw [← set1_some hv2022_10]; simp only [List.map_set, go_sem, Job.ds_eq]) ?_
    try simp only [go_sem]
    replace h := Option.some.inj h
    obtain rfl := h
    refine ret_i (.done _) [(1, 1)] [] ?_
    simp only [go_sem]
  · try simp only [go_sem]
    refine alt_i ?_ ?_
    · try simp only [go_sem]
      replace h := bindE h
      obtain ⟨v2010_1, hv2010_1, h⟩ := h
      replace h := bindE h
      obtain ⟨v2010_2, hv2010_2, h⟩ := h
      refine opt_i (row_m hv2010_1) ?_
      try simp only [go_sem]
      refine row_i (List.map Job.ds v2010_2) (by rw [← set1_some hv2010_2]; simp only [List.map_set, go_sem, Job.ds_eq]) ?_
      try simp only [go_sem]
      replace h := bindE h
      obtain ⟨v2013_3, hv2013_3, h⟩ := h
      replace h := bindE h
      obtain ⟨v2013_4, hv2013_4, h⟩ := h
      refine opt_i (row_m hv2013_3) ?_
      try simp only [go_sem]
      refine row_i (List.map Job.ds v2013_4) (by rw [← set1_some hv2013_4]; simp only [List.map_set, go_sem, Job.ds_eq]) ?_
      try simp only [go_sem]
      replace h := bindE h
      obtain ⟨v2016_5, hv2016_5, h⟩ := h
      replace h := bindE h
      obtain ⟨v2016_6, hv2016_6, h⟩ := h
      refine opt_i (row_m hv2016_5) ?_
      try simp only [go_sem]
      refine row_i (List.map Job.ds v2016_6) (by rw [← set1_some hv2016_6]; simp only [List.map_set, go_sem, Job.ds_eq]) ?_
      try simp only [go_sem]
      replace h := bindE h
      obtain ⟨v2019_7, hv2019_7, h⟩ := h
      replace h := bindE h
      obtain ⟨v2019_8, hv2019_8, h⟩ := h
      refine opt_i (row_m hv2019_7) ?_
      try simp only [go_sem]
      refine row_i (List.map Job.ds v2019_8) (by rw [← set1_some hv2019_8]; simp only [List.map_set, go_sem, Job.ds_eq]) ?_
      try simp only [go_sem]
      replace h := bindE h
      obtain ⟨v2022_9, hv2022_9, h⟩ := h
      replace h := bindE h
      obtain ⟨v2022_10, hv2022_10, h⟩ := h
      refine opt_i (row_m hv2022_9) ?_
      try simp only [go_sem]
      refine row_i (List.map Job.ds v2022_10) (by rw [← set1_some hv2022_10]; simp only [List.map_set, go_sem, Job.ds_eq]) ?_
      try simp only [go_sem]
      replace h := Option.some.inj h
      obtain rfl := h
      refine ret_i (.done _) [(1, 1)] [] ?_
      simp only [go_sem]
    · try simp only [go_sem]
      replace h := bindE h
      obtain ⟨v2010_1, hv2010_1, h⟩ := h
      replace h := bindE h
      obtain ⟨v2010_2, hv2010_2, h⟩ := h
      refine opt_i (row_m hv2010_1) ?_
      try simp only [go_sem]
      refine row_i (List.map Job.ds v2010_2) (by rw [← set1_some hv2010_2]; simp only [List.map_set, go_sem, Job.ds_eq]) ?_
      try simp only [go_sem]
      refine alt_i ?_ ?_
      · try simp only [go_sem]
        replace h := bindE h
        obtain ⟨v2013_3, hv2013_3, h⟩ := h
        replace h := bindE h
        obtain ⟨v2013_4, hv2013_4, h⟩ := h
        refine opt_i (row_m hv2013_3) ?_
        try simp only [go_sem]
        refine row_i (List.map Job.ds v2013_4) (by rw [← set1_some hv2013_4]; simp only [List.map_set, go_sem, Job.ds_eq]) ?_
        try simp only [go_sem]
        replace h := bindE h
        obtain ⟨v2016_5, hv2016_5, h⟩ := h
        replace h := bindE h
        obtain ⟨v2016_6, hv2016_6, h⟩ := h
        refine opt_i (row_m hv2016_5) ?_
        try simp only [go_sem]
        refine row_i (List.map Job.ds v2016_6) (by rw [← set1_some hv2016_6]; simp only [List.map_set, go_sem, Job.ds_eq]) ?_
        try simp only [go_sem]
        replace h := bindE h
        obtain ⟨v2019_7, hv2019_7, h⟩ := h
        replace h := bindE h
        obtain ⟨v2019_8, hv2019_8, h⟩ := h
        refine opt_i (row_m hv2019_7) ?_
        try simp only [go_sem]
        refine row_i (List.map Job.ds v2019_8) (by rw [← set1_some hv2019_8]; simp only [List.map_set, go_sem, Job.ds_eq]) ?_
        try simp only [go_sem]
        replace h := bindE h
        obtain ⟨v2022_9, hv2022_9, h⟩ := h
        replace h := bindE h
        obtain ⟨v2022_10, hv2022_10, h⟩ := h
        refine opt_i (row_m hv2022_9) ?_
        try simp only [go_sem]
        refine row_i (List.map Job.ds v2022_10) (by rw [← set1_some hv2022_10]; simp only [List.map_set, go_sem, Job.ds_eq]) ?_
        try simp only [go_sem]
        replace h := Option.some.inj h
        obtain rfl := h
        refine ret_i (.done _) [(1, 1)] [] ?_
        simp only [go_sem]
      · try simp only [go_sem]
        refine alt_i ?_ ?_
        · try simp only [go_sem]
          replace h := bindE h
          obtain ⟨v2013_3, hv2013_3, h⟩ := h
          replace h := bindE h
          obtain ⟨v2013_4, hv2013_4, h⟩ := h
          refine opt_i (row_m hv2013_3) ?_
          try simp only [go_sem]
          refine row_i (List.map Job.ds v2013_4) (by rw [← set1_some hv2013_4]; simp only [List.map_set, go_sem, Job.ds_eq]) ?_
          try simp only [go_sem]
          replace h := bindE h
          obtain ⟨v2016_5, hv2016_5, h⟩ := h
          replace h := bindE h
          obtain ⟨v2016_6, hv2016_6, h⟩ := h
          refine opt_i (row_m hv2016_5) ?_
          try simp only [go_sem]
          refine row_i (List.map Job.ds v2016_6) (by rw [← set1_some hv2016_6]; simp only [List.map_set, go_sem, Job.ds_eq]) ?_
          try simp only [go_sem]
          replace h := bindE h
          obtain ⟨v2019_7, hv2019_7, h⟩ := h
          replace h := bindE h
          obtain ⟨v2019_8, hv2019_8, h⟩ := h
          refine opt_i (row_m hv2019_7) ?_
          try simp only [go_sem]
          refine row_i (List.map Job.ds v2019_8) (by rw [← set1_some hv2019_8]; simp only [List.map_set, go_sem, Job.ds_eq]) ?_
          try simp only [go_sem]
          replace h := bindE h
          obtain ⟨v2022_9, hv2022_9, h⟩ := h
          replace h := bindE h
          obtain ⟨v2022_10, hv2022_10, h⟩ := h
          refine opt_i (row_m hv2022_9) ?_
          try simp only [go_sem]
          refine row_i (List.map Job.ds v2022_10) (by rw [← set1_some hv2022_10]; simp only [List.map_set, go_sem, Job.ds_eq]) ?_
          try simp only [go_sem]
          replace h := Option.some.inj h
          obtain rfl := h
          refine ret_i (.done _) [(1, 1)] [] ?_
          simp only [go_sem]
        · try simp only [go_sem]
          replace h := bindE h
          obtain ⟨v2013_3, hv2013_3, h⟩ := h
          replace h := bindE h
          obtain ⟨v2013_4, hv2013_4, h⟩ := h
          refine opt_i (row_m hv2013_3) ?_
          try simp only [go_sem]
          refine row_i (List.map Job.ds v2013_4) (by rw [← set1_some hv2013_4]; simp only [List.map_set, go_sem, Job.ds_eq]) ?_
          try simp only [go_sem]
          refine alt_i ?_ ?_
          · try simp only [go_sem]
            replace h := bindE h
            obtain ⟨v2016_5, hv2016_5, h⟩ := h
            replace h := bindE h
            obtain ⟨v2016_6, hv2016_6, h⟩ := h
            refine opt_i (row_m hv2016_5) ?_
            try simp only [go_sem]
            refine row_i (List.map Job.ds v2016_6) (by rw [← set1_some hv2016_6]; simp only [List.map_set, go_sem, Job.ds_eq]) ?_
            try simp only [go_sem]
            replace h := bindE h
            obtain ⟨v2019_7, hv2019_7, h⟩ := h
            replace h := bindE h
            obtain ⟨v2019_8, hv2019_8, h⟩ := h
            refine opt_i (row_m hv2019_7) ?_
            try simp only [go_sem]
            refine row_i (List.map Job.ds v2019_8) (by rw [← set1_some hv2019_8]; simp only [List.map_set, go_sem, Job.ds_eq]) ?_
            try simp only [go_sem]
            replace h := bindE h
            obtain ⟨v2022_9, hv2022_9, h⟩ := h
            replace h := bindE h
            obtain ⟨v2022_10, hv2022_10, h⟩ := h
            refine opt_i (row_m hv2022_9) ?_
            try simp only [go_sem]
            refine row_i (List.map Job.ds v2022_10) (by rw [← set1_some hv2022_10]; simp only [List.map_set, go_sem, Job.ds_eq]) ?_
            try simp only [go_sem]
            replace h := Option.some.inj h
            obtain rfl := h
            refine ret_i (.done _) [(1, 1)] [] ?_
            simp only [go_sem]
          · try simp only [go_sem]
            refine alt_i ?_ ?_
            · try simp only [go_sem]
              replace h := bindE h
              obtain ⟨v2016_5, hv2016_5, h⟩ := h
              replace h := bindE h
              obtain ⟨v2016_6, hv2016_6, h⟩ := h
              refine opt_i (row_m hv2016_5) ?_
              try simp only [go_sem]
              refine row_i (List.map Job.ds v2016_6) (by rw [← set1_some hv2016_6]; simp only [List.map_set, go_sem, Job.ds_eq]) ?_
              try simp only [go_sem]
              replace h := bindE h
              obtain ⟨v2019_7, hv2019_7, h⟩ := h
              replace h := bindE h
              obtain ⟨v2019_8, hv2019_8, h⟩ := h
              refine opt_i (row_m hv2019_7) ?_
              try simp only [go_sem]
              refine row_i (List.map Job.ds v2019_8) (by rw [← set1_some hv2019_8]; simp only [List.map_set, go_sem, Job.ds_eq]) ?_
              try simp only [go_sem]
              replace h := bindE h
              obtain ⟨v2022_9, hv2022_9, h⟩ := h
              replace h := bindE h
              obtain ⟨v2022_10, hv2022_10, h⟩ := h
              refine opt_i (row_m hv2022_9) ?_
              try simp only [go_sem]
              refine row_i (List.map Job.ds v2022_10) (by rw [← set1_some hv2022_10]; simp only [List.map_set, go_sem, Job.ds_eq]) ?_
              try simp only [go_sem]
              replace h := Option.some.inj h
              obtain rfl := h
              refine ret_i (.done _) [(1, 1)] [] ?_
              simp only [go_sem]
            · try simp only [go_sem]
              replace h := bindE h
              obtain ⟨v2016_5, hv2016_5, h⟩ := h
              replace h := bindE h
              obtain ⟨v2016_6, hv2016_6, h⟩ := h
              refine opt_i (row_m hv2016_5) ?_
              try simp only [go_sem]
              refine row_i (List.map Job.ds v2016_6) (by rw [← set1_some hv2016_6]; simp only [List.map_set, go_sem, Job.ds_eq]) ?_
              try simp only [go_sem]
              refine alt_i ?_ ?_
              · try simp only [go_sem]
                replace h := bindE h
                obtain ⟨v2019_7, hv2019_7, h⟩ := h
                replace h := bindE h
                obtain ⟨v2019_8, hv2019_8, h⟩ := h
                refine opt_i (row_m hv2019_7) ?_
                try simp only [go_sem]
                refine row_i (List.map Job.ds v2019_8) (by rw [← set1_some hv2019_8]; simp only [List.map_set, go_sem, Job.ds_eq]) ?_
                try simp only [go_sem]
                replace h := bindE h
                obtain ⟨v2022_9, hv2022_9, h⟩ := h
                replace h := bindE h
                obtain ⟨v2022_10, hv2022_10, h⟩ := h
                refine opt_i (row_m hv2022_9) ?_
                try simp only [go_sem]
                refine row_i (List.map Job.ds v2022_10) (by rw [← set1_some hv2022_10]; simp only [List.map_set, go_sem, Job.ds_eq]) ?_
                try simp only [go_sem]
                replace h := Option.some.inj h
                obtain rfl := h
                refine ret_i (.done _) [(1, 1)] [] ?_
                simp only [go_sem]
              · try simp only [go_sem]
                refine alt_i ?_ ?_
                · try simp only [go_sem]
                  replace h := bindE h
                  obtain ⟨v2019_7, hv2019_7, h⟩ := h
                  replace h := bindE h
                  obtain ⟨v2019_8, hv2019_8, h⟩ := h
                  refine opt_i (row_m hv2019_7) ?_
                  try simp only [go_sem]
                  refine row_i (List.map Job.ds v2019_8) (by rw [← set1_some hv2019_8]; simp only [List.map_set, go_sem, Job.ds_eq]) ?_
                  try simp only [go_sem]
                  replace h := bindE h
                  obtain ⟨v2022_9, hv2022_9, h⟩ := h
                  replace h := bindE h
                  obtain ⟨v2022_10, hv2022_10, h⟩ := h
                  refine opt_i (row_m hv2022_9) ?_
                  try simp only [go_sem]
                  refine row_i (List.map Job.ds v2022_10) (by rw [← set1_some hv2022_10]; simp only [List.map_set, go_sem, Job.ds_eq]) ?_
                  try simp only [go_sem]
                  replace h := Option.some.inj h
                  obtain rfl := h
                  refine ret_i (.done _) [(1, 1)] [] ?_
                  simp only [go_sem]
                · try simp only [go_sem]
                  replace h := bindE h
                  obtain ⟨v2019_7, hv2019_7, h⟩ := h
                  replace h := bindE h
                  obtain ⟨v2019_8, hv2019_8, h⟩ := h
                  refine opt_i (row_m hv2019_7) ?_
                  try simp only [go_sem]
                  refine row_i (List.map Job.ds v2019_8) (by rw [← set1_some hv2019_8]; simp only [List.map_set, go_sem, Job.ds_eq]) ?_
                  try simp only [go_sem]
                  replace h := bindE h
                  obtain ⟨v2022_9, hv2022_9, h⟩ := h
                  replace h := bindE h
                  obtain ⟨v2022_10, hv2022_10, h⟩ := h
                  refine opt_i (row_m hv2022_9) ?_
                  try simp only [go_sem]
                  refine row_i (List.map Job.ds v2022_10) (by rw [← set1_some hv2022_10]; simp only [List.map_set, go_sem, Job.ds_eq]) ?_
                  try simp only [go_sem]
                  replace h := Option.some.inj h
                  obtain rfl := h
                  refine ret_i (.done _) [(1, 1)] [] ?_
                  simp only [go_sem]
theorem i_CancelJob_ok (a0 : Queue) (a1 : Int) (r : Queue × Int) (h : i_CancelJob a0 a1 = some r) : AC Tryz.prog 20 [.agg (Queue.avs a0), .int .i64 a1] (.tup [.agg (Queue.rv r.1), .int .i64 r.2]) := by
  unfold i_CancelJob at h
  refine ac_fn mixed Tryz.func20 rfl rfl rfl (by kernel_rfl) (by kernel_rfl) ?_
  try simp only [go_sem]
  replace h := bindE h
  obtain ⟨v2001, hv2001, h⟩ := h
  refine call_i (i_Queue_found_ok _ _ _ hv2001) ?_
  try simp only [go_sem]
  refine cond_i (fun hb1 => ?_) (fun hb1 => ?_)
  · replace h := ifT (c := (!decide (v2001.2 = 0))) hb1 h
    try simp only [go_sem]
    replace h := Option.some.inj h
    obtain rfl := h
    simp only [go_sem]
  · replace h := ifF (c := (!decide (v2001.2 = 0))) hb1 h
    try simp only [go_sem]
    replace h := bindE h
    obtain ⟨v5003, hv5003, h⟩ := h
    refine idx_m hv5003 (Job.ds_len _) ?_
    try simp only [go_sem]
    refine cond_i (fun hb2 => ?_) (fun hb2 => ?_)
    · replace h := ifT (c := (!decide (v5003.state = 1))) hb2 h
      try simp only [go_sem]
      replace h := Option.some.inj h
      obtain rfl := h
      simp only [go_sem]
    · replace h := ifF (c := (!decide (v5003.state = 1))) hb2 h
      try simp only [go_sem]
      refine seq_go ?_
      try simp only [go_sem]
      replace h := bindE h
      obtain ⟨v7001, hv7001, h⟩ := h
      refine call_i (i_copyQueue_ok _ _ hv7001) ?_
      try simp only [go_sem]
      replace h := bindE h
      obtain ⟨v8003, hv8003, h⟩ := h
      refine idx_m hv8003 (Job.ds_len _) ?_
      try simp only [go_sem]
      replace h := bindE h
      obtain ⟨v8005, hv8005, h⟩ := h
      refine call_g ⟨[(3000128080, .nils, some 5)], [(1, 112016), (1001, 3000128080)], [], [], [], true⟩ (by kernel_rfl) (i_Job_end_ok _ _ _ _ _ (some 10) _ hv8005) (by kernel_rfl) ?_
      try simp only [go_sem]
      replace h := Option.some.inj h
      obtain rfl := h
      simp only [go_sem]
theorem l_FnExactCancelJob_j3_ok (v8002 : Queue × Int) (v18002 : Int × (List Job)) (p2_0 : Bool) (r : Bool) (h : l_FnExactCancelJob_j3 v8002 v18002 p2_0 = some r) : posF Tryz.prog Tryz.f4 [1, 1, 1, 1, 1, 1, 1, 1, 1, 1, 1, 1, 1, 1, 1, 1, 1, 1, 1, 0, 1] (.bool r) ⟨[(9, .box 1000002500 0), (12, .int .i64 v18002.1), (92, .bool p2_0)], [(1000002000, some ⟨List.map Job.ds v18002.2, some 10, 0⟩)], [(1000002500, some [.int .i64 v8002.1.quantum, .int .i64 v8002.1.nextId, .int .i64 v8002.1.turn, .own 1000002000])]⟩ := by
  unfold l_FnExactCancelJob_j3 at h
  refine posF_of rfl rfl ?_
  try simp only [go_sem]
  refine cond_i (fun hb11 => ?_) (fun hb11 => ?_)
  · replace h := ifT (c := p2_0) hb11 h
    try simp only [go_sem]
    replace h := Option.some.inj h
    obtain rfl := h
    simp only [go_sem]
  · replace h := ifF (c := p2_0) hb11 h
    try simp only [go_sem]
    refine seq_go ?_
    try simp only [go_sem]
    replace h := bindE h
    obtain ⟨v29002, hv29002, h⟩ := h
    refine call_i (l_heldQueue_ok _ _ _ hv29002) ?_
    try simp only [go_sem]
    refine cond_i (fun hb12 => ?_) (fun hb12 => ?_)
    · replace h := ifT (c := (decide (v29002 < 0))) hb12 h
      try simp only [go_sem]
      replace h := Option.some.inj h
      obtain rfl := h
      simp only [go_sem]
    · replace h := ifF (c := (decide (v29002 < 0))) hb12 h
      try simp only [go_sem]
      refine seq_go ?_
      try simp only [go_sem]
      refine cond_i (fun hb13 => ?_) (fun hb13 => ?_)
      · replace h := ifT (c := (!decide (v29002 = v18002.1))) hb13 h
        try simp only [go_sem]
        replace h := Option.some.inj h
        obtain rfl := h
        simp only [go_sem]
      · replace h := ifF (c := (!decide (v29002 = v18002.1))) hb13 h
        try simp only [go_sem]
        refine seq_go ?_
        try simp only [go_sem]
        replace h := Option.some.inj h
        obtain rfl := h
        simp only [go_sem]
theorem l_FnExactCancelJob_j2_ok (a0 : Queue) (a1 : Int) (v6003 : Queue × Int) (v8002 : Queue × Int) (p1_0 : Bool) (r : Bool) (h : l_FnExactCancelJob_j2 a0 a1 v6003 v8002 p1_0 = some r) : posF Tryz.prog Tryz.f4 [1, 1, 1, 1, 1, 1, 1, 1, 1, 1, 1, 0, 1] (.bool r) ⟨[(1, .int .i64 a1), (2, .box 1000001500 0), (6, .box 1000001501 0), (7, .int .i64 v6003.2), (9, .box 1000001502 0), (65, .bool p1_0)], [(1000001000, some ⟨List.map Job.ds v6003.1.jobs, some 10, 0⟩), (1000001001, some ⟨List.map Job.ds v8002.1.jobs, some 10, 0⟩)], [(1000001500, some [.int .i64 a0.quantum, .int .i64 a0.nextId, .int .i64 a0.turn, .ro (List.map Job.ds a0.jobs)]), (1000001501, some [.int .i64 v6003.1.quantum, .int .i64 v6003.1.nextId, .int .i64 v6003.1.turn, .own 1000001000]), (1000001502, some [.int .i64 v8002.1.quantum, .int .i64 v8002.1.nextId, .int .i64 v8002.1.turn, .own 1000001001])]⟩ := by
  unfold l_FnExactCancelJob_j2 at h
  refine posF_of rfl rfl ?_
  try simp only [go_sem]
  refine cond_i (fun hb7 => ?_) (fun hb7 => ?_)
  · replace h := ifT (c := p1_0) hb7 h
    try simp only [go_sem]
    replace h := Option.some.inj h
    obtain rfl := h
    simp only [go_sem]
  · replace h := ifF (c := p1_0) hb7 h
    try simp only [go_sem]
    refine seq_go ?_
    try simp only [go_sem]
    replace h := bindE h
    obtain ⟨v18002, hv18002, h⟩ := h
    refine call_g ⟨[], [(1, 1000001001)], [], [], [], true⟩ (by kernel_rfl) (l_markQueue_ok _ _ (some 10) _ hv18002) (by kernel_rfl) ?_
    try simp only [go_sem]
    replace h := bindE h
    obtain ⟨v20002, hv20002, h⟩ := h
    refine call_i (l_heldQueue_ok _ _ _ hv20002) ?_
    try simp only [go_sem]
    refine cond_i (fun hb8 => ?_) (fun hb8 => ?_)
    · replace h := ifT (c := (decide (v20002 < 0))) hb8 h
      try simp only [go_sem]
      replace h := Option.some.inj h
      obtain rfl := h
      simp only [go_sem]
    · replace h := ifF (c := (decide (v20002 < 0))) hb8 h
      try simp only [go_sem]
      refine seq_go ?_
      try simp only [go_sem]
      refine cond_i (fun hb9 => ?_) (fun hb9 => ?_)
      · replace h := ifT (c := (!decide (v20002 = v18002.1))) hb9 h
        try simp only [go_sem]
        replace h := Option.some.inj h
        obtain rfl := h
        simp only [go_sem]
      · replace h := ifF (c := (!decide (v20002 = v18002.1))) hb9 h
        try simp only [go_sem]
        refine seq_go ?_
        try simp only [go_sem]
        replace h := bindE h
        obtain ⟨v25001, hv25001, h⟩ := h
        refine call_i (l_toQueue_ok _ _ hv25001) ?_
        try simp only [go_sem]
        replace h := bindE h
        obtain ⟨v25003, hv25003, h⟩ := h
        refine call_i (i_CancelJob_ok _ _ _ hv25003) ?_
        try simp only [go_sem]
        replace h := bindE h
        obtain ⟨v26002, hv26002, h⟩ := h
        refine call_i (l_eqQueue_ok _ _ _ hv26002) ?_
        try simp only [go_sem]
        refine cond_i (fun hb10 => ?_) (fun hb10 => ?_)
        · replace h := ifT (c := (!v26002)) hb10 h
          try simp only [go_sem]
          have hj := posF_to rfl rfl (l_FnExactCancelJob_j3_ok v8002 v18002 true _ h)
          refine seq_to hj (.one ⟨_, .done _, [(1000002000, 1000001001)], [(1000002500, 1000001502)], ?_⟩)
          clear hj
          try simp only [go_sem]
        · replace h := ifF (c := (!v26002)) hb10 h
          try simp only [go_sem]
          have hj := posF_to rfl rfl (l_FnExactCancelJob_j3_ok v8002 v18002 (!decide (v25003.2 = v6003.2)) _ h)
          refine seq_to hj (.one ⟨_, .done _, [(1000002000, 1000001001)], [(1000002500, 1000001502)], ?_⟩)
          clear hj
          try simp only [go_sem]
theorem l_FnExactCancelJob_j1_ok (a0 : Queue) (a1 : Int) (v6003 : Queue × Int) (v7001 : Queue) (v8002 : Queue × Int) (p0_0 : Bool) (r : Bool) (h : l_FnExactCancelJob_j1 a0 a1 v6003 v7001 v8002 p0_0 = some r) : posF Tryz.prog Tryz.f4 [1, 1, 1, 1, 1, 1, 1, 0, 1] (.bool r) ⟨[(1, .int .i64 a1), (2, .box 1000000500 0), (6, .box 1000000501 0), (7, .int .i64 v6003.2), (8, .box 1000000502 0), (9, .box 1000000503 0), (10, .int .i64 v8002.2), (44, .bool p0_0)], [(1000000000, some ⟨List.map Job.ds v6003.1.jobs, some 10, 0⟩), (1000000001, some ⟨List.map Job.ds v7001.jobs, some 10, 0⟩), (1000000002, some ⟨List.map Job.ds v8002.1.jobs, some 10, 0⟩)], [(1000000500, some [.int .i64 a0.quantum, .int .i64 a0.nextId, .int .i64 a0.turn, .ro (List.map Job.ds a0.jobs)]), (1000000501, some [.int .i64 v6003.1.quantum, .int .i64 v6003.1.nextId, .int .i64 v6003.1.turn, .own 1000000000]), (1000000502, some [.int .i64 v7001.quantum, .int .i64 v7001.nextId, .int .i64 v7001.turn, .own 1000000001]), (1000000503, some [.int .i64 v8002.1.quantum, .int .i64 v8002.1.nextId, .int .i64 v8002.1.turn, .own 1000000002])]⟩ := by
  unfold l_FnExactCancelJob_j1 at h
  refine posF_of rfl rfl ?_
  try simp only [go_sem]
  refine cond_i (fun hb3 => ?_) (fun hb3 => ?_)
  · replace h := ifT (c := p0_0) hb3 h
    try simp only [go_sem]
    replace h := Option.some.inj h
    obtain rfl := h
    simp only [go_sem]
  · replace h := ifF (c := p0_0) hb3 h
    try simp only [go_sem]
    refine seq_go ?_
    try simp only [go_sem]
    refine draw_i [] .fin (by kernel_rfl) ?_
    try simp only [go_sem]
    replace h := bindE h
    obtain ⟨v11002, hv11002, h⟩ := h
    refine call_i (l_toQueue_ok _ _ hv11002) ?_
    try simp only [go_sem]
    replace h := bindE h
    obtain ⟨v11003, hv11003, h⟩ := h
    refine call_i (l_eqQueue_ok _ _ _ hv11003) ?_
    try simp only [go_sem]
    refine seq_go ?_
    try simp only [go_sem]
    refine cond_i (fun hb4 => ?_) (fun hb4 => ?_)
    · replace h := ifT (c := (!v11003)) hb4 h
      try simp only [go_sem]
      replace h := Option.some.inj h
      obtain rfl := h
      simp only [go_sem]
    · replace h := ifF (c := (!v11003)) hb4 h
      try simp only [go_sem]
      refine seq_go ?_
      try simp only [go_sem]
      replace h := bindE h
      obtain ⟨v14002, hv14002, h⟩ := h
      refine call_g ⟨[], [(1, 1000000001)], [], [], [], true⟩ (by kernel_rfl) (l_markQueue_ok _ _ (some 10) _ hv14002) (by kernel_rfl) ?_
      try simp only [go_sem]
      refine cond_i (fun hb5 => ?_) (fun hb5 => ?_)
      · replace h := ifT (c := (decide (v14002.1 < 0))) hb5 h
        try simp only [go_sem]
        have hj := posF_to rfl rfl (l_FnExactCancelJob_j2_ok a0 a1 v6003 v8002 true _ h)
        refine seq_to hj (.one ⟨_, .done _, [(1000001000, 1000000000), (1000001001, 1000000002)], [(1000001500, 1000000500), (1000001501, 1000000501), (1000001502, 1000000503)], ?_⟩)
        clear hj
        try simp only [go_sem]
      · replace h := ifF (c := (decide (v14002.1 < 0))) hb5 h
        try simp only [go_sem]
        replace h := bindE h
        obtain ⟨v15005, hv15005, h⟩ := h
        refine call_i (l_eqQueue_ok _ _ _ hv15005) ?_
        try simp only [go_sem]
        refine cond_i (fun hb6 => ?_) (fun hb6 => ?_)
        · replace h := ifT (c := (!v15005)) hb6 h
          try simp only [go_sem]
          have hj := posF_to rfl rfl (l_FnExactCancelJob_j2_ok a0 a1 v6003 v8002 true _ h)
          refine seq_to hj (.one ⟨_, .done _, [(1000001000, 1000000000), (1000001001, 1000000002)], [(1000001500, 1000000500), (1000001501, 1000000501), (1000001502, 1000000503)], ?_⟩)
          clear hj
          try simp only [go_sem]
        · replace h := ifF (c := (!v15005)) hb6 h
          try simp only [go_sem]
          have hj := posF_to rfl rfl (l_FnExactCancelJob_j2_ok a0 a1 v6003 v8002 (!decide (v8002.2 = v6003.2)) _ h)
          refine seq_to hj (.one ⟨_, .done _, [(1000001000, 1000000000), (1000001001, 1000000002)], [(1000001500, 1000000500), (1000001501, 1000000501), (1000001502, 1000000503)], ?_⟩)
          clear hj
          try simp only [go_sem]
theorem l_FnExactCancelJob_ok (a0 : Queue) (a1 : Int) (r : Bool) (h : l_FnExactCancelJob a0 a1 = some r) : AC Tryz.prog 4 [.agg (Queue.avs a0), .int .i64 a1] (.bool r) := by
  unfold l_FnExactCancelJob at h
  refine ac_fn mixed Tryz.func4 rfl rfl rfl (by kernel_rfl) (by kernel_rfl) ?_
  try simp only [go_sem]
  replace h := bindE h
  obtain ⟨v3002, hv3002, h⟩ := h
  refine call_i (l_szQueue_ok _ _ _ hv3002) ?_
  try simp only [go_sem]
  refine cond_i (fun hb1 => ?_) (fun hb1 => ?_)
  · replace h := ifT (c := (decide (v3002 < 0))) hb1 h
    try simp only [go_sem]
    replace h := Option.some.inj h
    obtain rfl := h
    simp only [go_sem]
  · replace h := ifF (c := (decide (v3002 < 0))) hb1 h
    try simp only [go_sem]
    refine seq_go ?_
    try simp only [go_sem]
    replace h := bindE h
    obtain ⟨v6001, hv6001, h⟩ := h
    refine call_i (l_toQueue_ok _ _ hv6001) ?_
    try simp only [go_sem]
    replace h := bindE h
    obtain ⟨v6003, hv6003, h⟩ := h
    refine call_i (s_CancelJob_ok _ _ _ hv6003) ?_
    try simp only [go_sem]
    replace h := bindE h
    obtain ⟨v7001, hv7001, h⟩ := h
    refine call_i (l_toQueue_ok _ _ hv7001) ?_
    try simp only [go_sem]
    replace h := bindE h
    obtain ⟨v8002, hv8002, h⟩ := h
    refine call_i (i_CancelJob_ok _ _ _ hv8002) ?_
    try simp only [go_sem]
    replace h := bindE h
    obtain ⟨v9002, hv9002, h⟩ := h
    refine call_i (l_eqQueue_ok _ _ _ hv9002) ?_
    try simp only [go_sem]
    refine cond_i (fun hb2 => ?_) (fun hb2 => ?_)
    · replace h := ifT (c := (!v9002)) hb2 h
      try simp only [go_sem]
      have hj := posF_to rfl rfl (l_FnExactCancelJob_j1_ok a0 a1 v6003 v7001 v8002 true _ h)
      refine seq_to hj (.one ⟨_, .done _, [(1000000000, 96048), (1000000001, 112016), (1000000002, 128032)], [(1000000500, 1000), (1000000501, 6007), (1000000502, 7002), (1000000503, 8006)], ?_⟩)
      clear hj
      try simp only [go_sem]
    · replace h := ifF (c := (!v9002)) hb2 h
      try simp only [go_sem]
      have hj := posF_to rfl rfl (l_FnExactCancelJob_j1_ok a0 a1 v6003 v7001 v8002 (!decide (v8002.2 = v6003.2)) _ h)
      refine seq_to hj (.one ⟨_, .done _, [(1000000000, 96048), (1000000001, 112016), (1000000002, 128032)], [(1000000500, 1000), (1000000501, 6007), (1000000502, 7002), (1000000503, 8006)], ?_⟩)
      clear hj
      try simp only [go_sem]
end Go.Proofs.YtlmanchbpommaaaGreat.Ab
