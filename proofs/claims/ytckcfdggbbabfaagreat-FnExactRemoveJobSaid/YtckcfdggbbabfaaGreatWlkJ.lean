/-
 The functions do what their models say. Printed by wip/ab/gen.py.
-/
import Derived.Test.YtckcfdggbbabfaaGreatModJ
import Derived.Test.YtckcfdggbbabfaaGreatTi2
import Derived.Test.YtckcfdggbbabfaaGreatWlkU
namespace Go.Proofs.YtckcfdggbbabfaaGreat.Ab
set_option linter.unusedVariables false
set_option linter.unusedSimpArgs false
set_option maxRecDepth 20000
set_option maxHeartbeats 4000000
open Go.RowKit
theorem s_l00Own_ok (a0 : List Int) (r : (List Int)) (h : s_l00Own a0 = some r) : AC Tryz.prog 108 [.ro (List.map i64D a0)] (.ow (some 1) (List.map i64D r)) := by
 unfold s_l00Own at h
 refine ac_fn mixed Tryz.func108 rfl rfl rfl (by kernel_rfl) (by kernel_rfl) ?_
 try simp only [go_sem]
 replace h := bindE h
 obtain ⟨v2002, hv2002, h⟩ := h
 have hq_ := app_some hv2002
 obtain ⟨hv2002a, hv2002b⟩ := hq_
 refine zed_i false ?_
 try simp only [go_sem]
 refine and_i (flat_rows_of (by intro x; exact ⟨rfl, by simp [go_sem, D.flat]⟩) _) ?_
 try simp only [go_sem]
 refine and_i (by refine ⟨?_, ?_⟩ <;> (try simp only [List.length_map, List.length_append, List.length_cons, List.length_nil] at *) <;> (try unfold maxLen) <;> omega) ?_
 try simp only [go_sem]
 refine row_i (List.map i64D v2002) (by rw [← hv2002b]; simp only [List.map_append, List.map_cons, List.map_nil, List.nil_append, List.append_nil, go_sem, slD]) ?_
 try simp only [go_sem]
 refine seq_go ?_
 try simp only [go_sem]
 cases h
 simp only [go_sem]
theorem s_l11OwnAgent_ok (a0 : Agent) (r : Agent) (h : s_l11OwnAgent a0 = some r) : AC Tryz.prog 122 [.rop (Agent.avs a0) 0] (.agg (Agent.rv r)) := by
 unfold s_l11OwnAgent at h
 refine ac_fn mixed Tryz.func122 rfl rfl rfl (by kernel_rfl) (by kernel_rfl) ?_
 try simp only [go_sem]
 refine draw_i [false, false, false, false, false, false, false, false, false, false, false, false, false, false, false, false, false, false, false, false, false, false, false, false, true] (Tr.sq [24] .fin) (by kernel_rfl) ?_
 try simp only [go_sem]
 replace h := bindE h
 obtain ⟨v2016, hv2016, h⟩ := h
 refine call_i (s_l00Own_ok _ _ hv2016) ?_
 try simp only [go_sem]
 replace h := bindE h
 obtain ⟨v2022, hv2022, h⟩ := h
 have hq_ := app_some hv2022
 obtain ⟨hv2022a, hv2022b⟩ := hq_
 refine and_i (by rfl) ?_
 try simp only [go_sem]
 refine zed_i false ?_
 try simp only [go_sem]
 refine and_i (flat_rows_of (by intro x; exact ⟨(Port.ds_len _), by simp [Port.ds_eq, D.flat]⟩) _) ?_
 try simp only [go_sem]
 refine and_i (by refine ⟨?_, ?_⟩ <;> (try simp only [List.length_map, List.length_append, List.length_cons, List.length_nil] at *) <;> (try unfold maxLen) <;> omega) ?_
 try simp only [go_sem]
 refine row_i (List.map Port.ds v2022) (by rw [← hv2022b]; simp only [List.nil_append]) ?_
 try simp only [go_sem]
 refine seq_go ?_
 try simp only [go_sem]
 cases h
 simp only [go_sem]
theorem s_l11Own_l2_ok (n : Nat) : (∀ (a0 : Net) (p1_0 : List Agent) (p1_1 : Int) (r : Net), s_l11Own_l2 n a0 p1_0 p1_1 = some r → posF Tryz.prog Tryz.f75 [1, 1, 0, 1, 0] (.agg (Net.rv r)) ⟨[(0, .rop [.ro (List.map Agent.ds a0.agents)] 0), (2, .box 1000001500 0), (3, .box 1000001501 0), (4, .int .i64 p1_1)], [(1000001000, some ⟨List.map Agent.ds p1_0, some 5, 0, false⟩)], [(1000001500, some [.nils]), (1000001501, some [.own 1000001000])]⟩) := by
 induction n with
 | zero => exact ((fun _ _ _ _ h => by rw [s_l11Own_l2] at h; cases h))
 | succ n ih =>
  have ih0 := ih
  ·intro a0 p1_0 p1_1 r h
   rw [s_l11Own_l2] at h
   refine posF_of rfl rfl ?_
   try simp only [go_sem]
   refine loop_i ?_
   try simp only [go_sem]
   refine cond_i (fun hb1 => ?_) (fun hb1 => ?_)
   ·replace h := ifT (c := (decide (p1_1 < ((List.length a0.agents : Nat) : Int)))) hb1 h
    try simp only [go_sem]
    refine seq_go ?_
    try simp only [go_sem]
    refine draw_i [false, false, false, false, false, false, false, false, false, false, true, true, true] (Tr.sq [10, 11, 12] .fin) (by kernel_rfl) ?_
    try simp only [go_sem]
    replace h := bindE h
    obtain ⟨v6007, hv6007, h⟩ := h
    refine idx_m hv6007 (Agent.ds_len _) ?_
    try simp only [go_sem]
    replace h := bindE h
    obtain ⟨v6008, hv6008, h⟩ := h
    refine call_i (s_l11OwnAgent_ok _ _ hv6008) ?_
    try simp only [go_sem]
    replace h := bindE h
    obtain ⟨v6010, hv6010, h⟩ := h
    have hq_ := app_some hv6010
    obtain ⟨hv6010a, hv6010b⟩ := hq_
    refine zed_i false ?_
    try simp only [go_sem]
    refine and_i (by refine ⟨?_, ?_⟩ <;> (try simp only [List.length_map, List.length_append, List.length_cons, List.length_nil] at *) <;> (try unfold maxLen) <;> omega) ?_
    try simp only [go_sem]
    refine row_i (List.map Agent.ds v6010) (by rw [← hv6010b]; simp only [List.map_append, List.map_cons, List.map_nil, List.nil_append, List.append_nil, go_sem, Agent.ds_eq]) ?_
    try simp only [go_sem]
    refine seq_go ?_
    try simp only [go_sem]
    have hj := posF_to rfl rfl (ih0 a0 v6010 (IntKind.i64.wrap (p1_1 + 1)) _ h)
    refine lp_to hj (.one ⟨_, .done _, [(1000001000, 96160)], [(1000001500, 1000001500), (1000001501, 1000001501)], ?_⟩)
    clear hj
    try simp only [go_sem]
   ·replace h := ifF (c := (decide (p1_1 < ((List.length a0.agents : Nat) : Int)))) hb1 h
    try simp only [go_sem]
    refine seq_go ?_
    try simp only [go_sem]
    cases h
    simp only [go_sem]
theorem s_l11Own_ok (a0 : Net) (r : Net) (h : s_l11Own a0 = some r) : AC Tryz.prog 75 [.rop (Net.avs a0) 0] (.agg (Net.rv r)) := by
 unfold s_l11Own at h
 refine ac_fn mixed Tryz.func75 rfl rfl rfl (by kernel_rfl) (by kernel_rfl) ?_
 try simp only [go_sem]
 have hj := posF_to rfl rfl (s_l11Own_l2_ok fuel a0 [] 0 _ h)
 refine loop_to hj (.one ⟨_, .cell 2001 0 2000000000 (some 5) false _ (by simp only [go_sem]; rfl) (by rfl) (by simp only [go_sem]) (.done _), [(1000001000, 2000000000)], [(1000001500, 1000), (1000001501, 2001)], ?_⟩)
 clear hj
 simp only [go_sem]
 all_goals try rfl
theorem s_l34OwnJob_l2_ok (n : Nat) : (∀ (a0 : Job) (v3004 : (List Int)) (v4004 : (List Int)) (p1_0 : List Net) (p1_1 : Int) (r : Job), s_l34OwnJob_l2 n a0 v3004 v4004 p1_0 p1_1 = some r → posF Tryz.prog Tryz.f61 [1, 1, 1, 1, 1, 0, 1, 0] (.agg (Job.rv r)) ⟨[(0, .rop [.int .i64 a0.id, .int .i64 a0.weight, .int .i64 a0.state, .int .i64 a0.code, .int .i64 a0.left, .int .i64 a0.slices, .ro (List.map i64D a0.counts), .ro (List.map i64D a0.schedule), .ro (List.map Net.ds a0.book), .ro (List.map Agent.ds a0.net.agents)] 0), (2, .box 1000001500 0), (3, .box 1000001501 0), (4, .int .i64 p1_1)], [(1000001000, some ⟨List.map i64D v3004, some 1, 0, false⟩), (1000001001, some ⟨List.map i64D v4004, some 1, 0, false⟩), (1000001002, some ⟨List.map Net.ds p1_0, some 1, 0, false⟩)], [(1000001500, some [.int .i64 0, .int .i64 0, .int .i64 0, .int .i64 0, .int .i64 0, .int .i64 0, .nils, .nils, .nils, .nils]), (1000001501, some [.int .i64 a0.id, .int .i64 a0.weight, .int .i64 a0.state, .int .i64 a0.code, .int .i64 a0.left, .int .i64 a0.slices, .own 1000001000, .own 1000001001, .own 1000001002, .ro (List.map Agent.ds a0.net.agents)])]⟩) := by
 induction n with
 | zero => exact ((fun _ _ _ _ _ _ h => by rw [s_l34OwnJob_l2] at h; cases h))
 | succ n ih =>
  have ih0 := ih
  ·intro a0 v3004 v4004 p1_0 p1_1 r h
   rw [s_l34OwnJob_l2] at h
   refine posF_of rfl rfl ?_
   try simp only [go_sem]
   refine loop_i ?_
   try simp only [go_sem]
   refine cond_i (fun hb1 => ?_) (fun hb1 => ?_)
   ·replace h := ifT (c := (decide (p1_1 < ((List.length a0.book : Nat) : Int)))) hb1 h
    try simp only [go_sem]
    refine seq_go ?_
    try simp only [go_sem]
    refine draw_i [false, false, false, false, false, false, false, false, false, false, true, true, true] (Tr.sq [10, 11, 12] .fin) (by kernel_rfl) ?_
    try simp only [go_sem]
    replace h := bindE h
    obtain ⟨v9007, hv9007, h⟩ := h
    refine idx_m hv9007 (Net.ds_len _) ?_
    try simp only [go_sem]
    replace h := bindE h
    obtain ⟨v9008, hv9008, h⟩ := h
    refine call_i (s_l11Own_ok _ _ hv9008) ?_
    try simp only [go_sem]
    replace h := bindE h
    obtain ⟨v9010, hv9010, h⟩ := h
    have hq_ := app_some hv9010
    obtain ⟨hv9010a, hv9010b⟩ := hq_
    refine zed_i false ?_
    try simp only [go_sem]
    refine and_i (by refine ⟨?_, ?_⟩ <;> (try simp only [List.length_map, List.length_append, List.length_cons, List.length_nil] at *) <;> (try unfold maxLen) <;> omega) ?_
    try simp only [go_sem]
    refine row_i (List.map Net.ds v9010) (by rw [← hv9010b]; simp only [List.map_append, List.map_cons, List.map_nil, List.nil_append, List.append_nil, go_sem, Net.ds_eq]) ?_
    try simp only [go_sem]
    refine seq_go ?_
    try simp only [go_sem]
    have hj := posF_to rfl rfl (ih0 a0 v3004 v4004 v9010 (IntKind.i64.wrap (p1_1 + 1)) _ h)
    refine lp_to hj (.one ⟨_, .done _, [(1000001000, 1000001000), (1000001001, 1000001001), (1000001002, 144160)], [(1000001500, 1000001500), (1000001501, 1000001501)], ?_⟩)
    clear hj
    try simp only [go_sem]
   ·replace h := ifF (c := (decide (p1_1 < ((List.length a0.book : Nat) : Int)))) hb1 h
    try simp only [go_sem]
    refine seq_go ?_
    try simp only [go_sem]
    replace h := bindE h
    obtain ⟨v10003, hv10003, h⟩ := h
    refine call_i (ac_sub (s_l11Own_ok _ _ hv10003) (.cons (.rop rfl) .nil)) ?_
    try simp only [go_sem]
    refine seq_go ?_
    try simp only [go_sem]
    cases h
    simp only [go_sem]
theorem s_l34OwnJob_ok (a0 : Job) (r : Job) (h : s_l34OwnJob a0 = some r) : AC Tryz.prog 61 [.rop (Job.avs a0) 0] (.agg (Job.rv r)) := by
 unfold s_l34OwnJob at h
 refine ac_fn mixed Tryz.func61 rfl rfl rfl (by kernel_rfl) (by kernel_rfl) ?_
 try simp only [go_sem]
 replace h := bindE h
 obtain ⟨v3004, hv3004, h⟩ := h
 refine call_i (s_l00Own_ok _ _ hv3004) ?_
 try simp only [go_sem]
 refine seq_go ?_
 try simp only [go_sem]
 replace h := bindE h
 obtain ⟨v4004, hv4004, h⟩ := h
 refine call_i (s_l00Own_ok _ _ hv4004) ?_
 try simp only [go_sem]
 refine seq_go ?_
 try simp only [go_sem]
 have hj := posF_to rfl rfl (s_l34OwnJob_l2_ok fuel a0 v3004 v4004 [] 0 _ h)
 refine loop_to hj (.one ⟨_, .cell 2003 8 2000000000 (some 1) false _ (by simp only [go_sem]; rfl) (by rfl) (by simp only [go_sem]) (.done _), [(1000001000, 48064), (1000001001, 64064), (1000001002, 2000000000)], [(1000001500, 1000), (1000001501, 2003)], ?_⟩)
 clear hj
 simp only [go_sem]
 all_goals try rfl
theorem s_l34Own_l2_ok (n : Nat) : (∀ (a0 : Queue) (p1_0 : List Job) (p1_1 : Int) (r : Queue), s_l34Own_l2 n a0 p1_0 p1_1 = some r → posF Tryz.prog Tryz.f60 [1, 1, 0, 1, 0] (.agg (Queue.rv r)) ⟨[(0, .rop [.int .i64 a0.quantum, .int .i64 a0.nextId, .int .i64 a0.turn, .ro (List.map Job.ds a0.jobs)] 0), (2, .box 1000001500 0), (3, .box 1000001501 0), (4, .int .i64 p1_1)], [(1000001000, some ⟨List.map Job.ds p1_0, some 10, 0, false⟩)], [(1000001500, some [.int .i64 0, .int .i64 0, .int .i64 0, .nils]), (1000001501, some [.int .i64 a0.quantum, .int .i64 a0.nextId, .int .i64 a0.turn, .own 1000001000])]⟩) := by
 induction n with
 | zero => exact ((fun _ _ _ _ h => by rw [s_l34Own_l2] at h; cases h))
 | succ n ih =>
  have ih0 := ih
  ·intro a0 p1_0 p1_1 r h
   rw [s_l34Own_l2] at h
   refine posF_of rfl rfl ?_
   try simp only [go_sem]
   refine loop_i ?_
   try simp only [go_sem]
   refine cond_i (fun hb1 => ?_) (fun hb1 => ?_)
   ·replace h := ifT (c := (decide (p1_1 < ((List.length a0.jobs : Nat) : Int)))) hb1 h
    try simp only [go_sem]
    refine seq_go ?_
    try simp only [go_sem]
    refine draw_i [false, false, false, false, false, false, false, false, false, false, true, true, true] (Tr.sq [10, 11, 12] .fin) (by kernel_rfl) ?_
    try simp only [go_sem]
    replace h := bindE h
    obtain ⟨v6007, hv6007, h⟩ := h
    refine idx_m hv6007 (Job.ds_len _) ?_
    try simp only [go_sem]
    replace h := bindE h
    obtain ⟨v6008, hv6008, h⟩ := h
    refine call_i (s_l34OwnJob_ok _ _ hv6008) ?_
    try simp only [go_sem]
    replace h := bindE h
    obtain ⟨v6010, hv6010, h⟩ := h
    have hq_ := app_some hv6010
    obtain ⟨hv6010a, hv6010b⟩ := hq_
    refine zed_i false ?_
    try simp only [go_sem]
    refine and_i (by refine ⟨?_, ?_⟩ <;> (try simp only [List.length_map, List.length_append, List.length_cons, List.length_nil] at *) <;> (try unfold maxLen) <;> omega) ?_
    try simp only [go_sem]
    refine row_i (List.map Job.ds v6010) (by rw [← hv6010b]; simp only [List.map_append, List.map_cons, List.map_nil, List.nil_append, List.append_nil, go_sem, Job.ds_eq]) ?_
    try simp only [go_sem]
    refine seq_go ?_
    try simp only [go_sem]
    have hj := posF_to rfl rfl (ih0 a0 v6010 (IntKind.i64.wrap (p1_1 + 1)) _ h)
    refine lp_to hj (.one ⟨_, .done _, [(1000001000, 96160)], [(1000001500, 1000001500), (1000001501, 1000001501)], ?_⟩)
    clear hj
    try simp only [go_sem]
   ·replace h := ifF (c := (decide (p1_1 < ((List.length a0.jobs : Nat) : Int)))) hb1 h
    try simp only [go_sem]
    refine seq_go ?_
    try simp only [go_sem]
    cases h
    simp only [go_sem]
theorem s_l34Own_ok (a0 : Queue) (r : Queue) (h : s_l34Own a0 = some r) : AC Tryz.prog 60 [.rop (Queue.avs a0) 0] (.agg (Queue.rv r)) := by
 unfold s_l34Own at h
 refine ac_fn mixed Tryz.func60 rfl rfl rfl (by kernel_rfl) (by kernel_rfl) ?_
 try simp only [go_sem]
 refine draw_i [false, false, false, false, false, false, false, false, false, false, false, false, false, false, true] (Tr.sq [14] .fin) (by kernel_rfl) ?_
 try simp only [go_sem]
 refine seq_go ?_
 try simp only [go_sem]
 have hj := posF_to rfl rfl (s_l34Own_l2_ok fuel a0 [] 0 _ h)
 refine loop_to hj (.one ⟨_, .cell 2013 3 2000000000 (some 10) false _ (by simp only [go_sem]; rfl) (by rfl) (by simp only [go_sem]) (.done _), [(1000001000, 2000000000)], [(1000001500, 1000), (1000001501, 2013)], ?_⟩)
 clear hj
 simp only [go_sem]
 all_goals try rfl
theorem g_Clone_sint64_ok (a0 : List Int) (r : (List Int)) (h : g_Clone_sint64 a0 = some r) : AC Tryz.prog 115 [.ro (List.map i64D a0)] (.ow (some 1) (List.map i64D r)) := by
 unfold g_Clone_sint64 at h
 refine ac_fn mixed Tryz.func115 rfl rfl rfl (by kernel_rfl) (by kernel_rfl) ?_
 try simp only [go_sem]
 refine nil_i (by simp only [go_sem]) (fun h0 => ?_) ?_
 ·try simp only [go_sem]
  have hq_ := List.map_eq_nil_iff.1 h0
  obtain rfl := hq_
  obtain rfl : r = [] := by cases h; rfl
  simp only [go_sem]
 ·try simp only [go_sem]
  refine seq_go ?_
  try simp only [go_sem]
  replace h := bindE h
  obtain ⟨v4002, hv4002, h⟩ := h
  have hq_ := app_some hv4002
  obtain ⟨hv4002a, hv4002b⟩ := hq_
  refine zed_i false ?_
  try simp only [go_sem]
  refine and_i (flat_rows_of (by intro x; exact ⟨rfl, by simp [go_sem, D.flat]⟩) _) ?_
  try simp only [go_sem]
  refine and_i (by refine ⟨?_, ?_⟩ <;> (try simp only [List.length_map, List.length_append, List.length_cons, List.length_nil] at *) <;> (try unfold maxLen) <;> omega) ?_
  try simp only [go_sem]
  refine row_i (List.map i64D v4002) (by rw [← hv4002b]; simp only [List.map_append, List.map_cons, List.map_nil, List.nil_append, List.append_nil, go_sem, slD]) ?_
  try simp only [go_sem]
  refine seq_go ?_
  try simp only [go_sem]
  cases h
  simp only [go_sem]
theorem g_Clone_simpl_Port_ok (a0 : List Port) (r : (List Port)) (h : g_Clone_simpl_Port a0 = some r) : AC Tryz.prog 221 [.ro (List.map Port.ds a0)] (.ow (some 2) (List.map Port.ds r)) := by
 unfold g_Clone_simpl_Port at h
 refine ac_fn mixed Tryz.func221 rfl rfl rfl (by kernel_rfl) (by kernel_rfl) ?_
 try simp only [go_sem]
 refine nil_i (by simp only [go_sem]) (fun h0 => ?_) ?_
 ·try simp only [go_sem]
  have hq_ := List.map_eq_nil_iff.1 h0
  obtain rfl := hq_
  obtain rfl : r = [] := by cases h; rfl
  simp only [go_sem]
 ·try simp only [go_sem]
  refine seq_go ?_
  try simp only [go_sem]
  replace h := bindE h
  obtain ⟨v4002, hv4002, h⟩ := h
  have hq_ := app_some hv4002
  obtain ⟨hv4002a, hv4002b⟩ := hq_
  refine zed_i false ?_
  try simp only [go_sem]
  refine and_i (flat_rows_of (by intro x; exact ⟨(Port.ds_len _), by simp [Port.ds_eq, D.flat]⟩) _) ?_
  try simp only [go_sem]
  refine and_i (by refine ⟨?_, ?_⟩ <;> (try simp only [List.length_map, List.length_append, List.length_cons, List.length_nil] at *) <;> (try unfold maxLen) <;> omega) ?_
  try simp only [go_sem]
  refine row_i (List.map Port.ds v4002) (by rw [← hv4002b]; simp only [List.map_append, List.map_cons, List.map_nil, List.nil_append, List.append_nil, go_sem, Port.ds_eq]) ?_
  try simp only [go_sem]
  refine seq_go ?_
  try simp only [go_sem]
  cases h
  simp only [go_sem]
theorem i_copyAgent_ok (a0 : Agent) (r : Agent) (h : i_copyAgent a0 = some r) : AC Tryz.prog 186 [.agg (Agent.avs a0)] (.agg (Agent.rv r)) := by
 unfold i_copyAgent at h
 refine ac_fn mixed Tryz.func186 rfl rfl rfl (by kernel_rfl) (by kernel_rfl) ?_
 try simp only [go_sem]
 refine draw_i [false, false, false, false, false, false, false, true, true, true] (Tr.sq [7, 8, 9] .fin) (by kernel_rfl) ?_
 try simp only [go_sem]
 replace h := bindE h
 obtain ⟨v2002, hv2002, h⟩ := h
 refine call_i (g_Clone_sint64_ok _ _ hv2002) ?_
 try simp only [go_sem]
 replace h := bindE h
 obtain ⟨v2005, hv2005, h⟩ := h
 refine call_i (g_Clone_simpl_Port_ok _ _ hv2005) ?_
 try simp only [go_sem]
 refine seq_go ?_
 try simp only [go_sem]
 cases h
 simp only [go_sem]
theorem i_copyNet_l2_ok (n : Nat) : (∀ (a0 : Net) (p1_0 : List Agent) (p1_1 : Int) (r : Net), i_copyNet_l2 n a0 p1_0 p1_1 = some r → posF Tryz.prog Tryz.f117 [1, 1, 0, 1, 0] (.agg (Net.rv r)) ⟨[(2, .box 1000001500 0), (3, .box 1000001501 0), (12, .ro (List.map Agent.ds a0.agents)), (13, .int .i64 ((List.length a0.agents : Nat) : Int)), (14, .int .i64 p1_1)], [(1000001000, some ⟨List.map Agent.ds p1_0, some 5, 0, false⟩)], [(1000001500, some [.nils]), (1000001501, some [.own 1000001000])]⟩) := by
 induction n with
 | zero => exact ((fun _ _ _ _ h => by rw [i_copyNet_l2] at h; cases h))
 | succ n ih =>
  have ih0 := ih
  ·intro a0 p1_0 p1_1 r h
   rw [i_copyNet_l2] at h
   refine posF_of rfl rfl ?_
   try simp only [go_sem]
   refine loop_i ?_
   try simp only [go_sem]
   refine cond_i (fun hb1 => ?_) (fun hb1 => ?_)
   ·replace h := ifT (c := (decide (p1_1 < ((List.length a0.agents : Nat) : Int)))) hb1 h
    try simp only [go_sem]
    refine seq_go ?_
    try simp only [go_sem]
    replace h := bindE h
    obtain ⟨v5000, hv5000, h⟩ := h
    refine idx_m hv5000 (Agent.ds_len _) ?_
    try simp only [go_sem]
    refine draw_i [false, false, false, false, false, true, true, true] (Tr.sq [5, 6, 7] .fin) (by kernel_rfl) ?_
    try simp only [go_sem]
    replace h := bindE h
    obtain ⟨v6003, hv6003, h⟩ := h
    refine call_i (i_copyAgent_ok _ _ hv6003) ?_
    try simp only [go_sem]
    replace h := bindE h
    obtain ⟨v6005, hv6005, h⟩ := h
    have hq_ := app_some hv6005
    obtain ⟨hv6005a, hv6005b⟩ := hq_
    refine zed_i false ?_
    try simp only [go_sem]
    refine and_i (by refine ⟨?_, ?_⟩ <;> (try simp only [List.length_map, List.length_append, List.length_cons, List.length_nil] at *) <;> (try unfold maxLen) <;> omega) ?_
    try simp only [go_sem]
    refine row_i (List.map Agent.ds v6005) (by rw [← hv6005b]; simp only [List.map_append, List.map_cons, List.map_nil, List.nil_append, List.append_nil, go_sem, Agent.ds_eq]) ?_
    try simp only [go_sem]
    refine seq_go ?_
    try simp only [go_sem]
    have hj := posF_to rfl rfl (ih0 a0 v6005 (IntKind.i64.wrap (p1_1 + 1)) _ h)
    refine lp_to hj (.one ⟨_, .done _, [(1000001000, 96080)], [(1000001500, 1000001500), (1000001501, 1000001501)], ?_⟩)
    clear hj
    try simp only [go_sem]
   ·replace h := ifF (c := (decide (p1_1 < ((List.length a0.agents : Nat) : Int)))) hb1 h
    try simp only [go_sem]
    refine seq_go ?_
    try simp only [go_sem]
    cases h
    simp only [go_sem]
theorem i_copyNet_ok (a0 : Net) (r : Net) (h : i_copyNet a0 = some r) : AC Tryz.prog 117 [.agg (Net.avs a0)] (.agg (Net.rv r)) := by
 unfold i_copyNet at h
 refine ac_fn mixed Tryz.func117 rfl rfl rfl (by kernel_rfl) (by kernel_rfl) ?_
 try simp only [go_sem]
 replace h := bindE h
 obtain ⟨v2003, hv2003, h⟩ := h
 have hq_ := rep_some hv2003
 obtain ⟨hv2003a, hv2003b, hv2003c⟩ := hq_
 refine and_i (by unfold leX; omega) ?_
 try simp only [go_sem]
 refine and_i (by refine ⟨?_, ?_, ?_⟩ <;> omega) ?_
 try simp only [go_sem]
 refine row_i [] (by rfl) ?_
 try simp only [go_sem]
 refine seq_go ?_
 try simp only [go_sem]
 have hj := posF_to rfl rfl (i_copyNet_l2_ok fuel a0 [] 0 _ h)
 refine loop_to hj (.one ⟨_, .done _, [(1000001000, 32048)], [(1000001500, 1001), (1000001501, 2005)], ?_⟩)
 clear hj
 try simp only [go_sem]
theorem i_copyNets_l1_ok (n : Nat) : (∀ (a0 : List Net) (p0_0 : List Net) (p0_1 : Int) (r : (List Net)), i_copyNets_l1 n a0 p0_0 p0_1 = some r → posF Tryz.prog Tryz.f116 [1, 1, 0, 1, 0] (.ow (some 1) (List.map Net.ds r)) ⟨[(3, .own 1000000000), (6, .ro (List.map Net.ds a0)), (7, .int .i64 ((List.length a0 : Nat) : Int)), (8, .int .i64 p0_1)], [(1000000000, some ⟨List.map Net.ds p0_0, some 1, 0, false⟩)], []⟩) := by
 induction n with
 | zero => exact ((fun _ _ _ _ h => by rw [i_copyNets_l1] at h; cases h))
 | succ n ih =>
  have ih0 := ih
  ·intro a0 p0_0 p0_1 r h
   rw [i_copyNets_l1] at h
   refine posF_of rfl rfl ?_
   try simp only [go_sem]
   refine loop_i ?_
   try simp only [go_sem]
   refine cond_i (fun hb1 => ?_) (fun hb1 => ?_)
   ·replace h := ifT (c := (decide (p0_1 < ((List.length a0 : Nat) : Int)))) hb1 h
    try simp only [go_sem]
    refine seq_go ?_
    try simp only [go_sem]
    replace h := bindE h
    obtain ⟨v5000, hv5000, h⟩ := h
    refine idx_m hv5000 (Net.ds_len _) ?_
    try simp only [go_sem]
    replace h := bindE h
    obtain ⟨v6002, hv6002, h⟩ := h
    refine call_i (i_copyNet_ok _ _ hv6002) ?_
    try simp only [go_sem]
    replace h := bindE h
    obtain ⟨v6004, hv6004, h⟩ := h
    have hq_ := app_some hv6004
    obtain ⟨hv6004a, hv6004b⟩ := hq_
    refine zed_i false ?_
    try simp only [go_sem]
    refine and_i (by refine ⟨?_, ?_⟩ <;> (try simp only [List.length_map, List.length_append, List.length_cons, List.length_nil] at *) <;> (try unfold maxLen) <;> omega) ?_
    try simp only [go_sem]
    refine row_i (List.map Net.ds v6004) (by rw [← hv6004b]; simp only [List.map_append, List.map_cons, List.map_nil, List.nil_append, List.append_nil, go_sem, Net.ds_eq]) ?_
    try simp only [go_sem]
    refine seq_go ?_
    try simp only [go_sem]
    have hj := posF_to rfl rfl (ih0 a0 v6004 (IntKind.i64.wrap (p0_1 + 1)) _ h)
    refine lp_to hj (.one ⟨_, .done _, [(1000000000, 96064)], [], ?_⟩)
    clear hj
    try simp only [go_sem]
   ·replace h := ifF (c := (decide (p0_1 < ((List.length a0 : Nat) : Int)))) hb1 h
    try simp only [go_sem]
    refine seq_go ?_
    try simp only [go_sem]
    cases h
    simp only [go_sem]
theorem i_copyNets_ok (a0 : List Net) (r : (List Net)) (h : i_copyNets a0 = some r) : AC Tryz.prog 116 [.ro (List.map Net.ds a0)] (.ow (some 1) (List.map Net.ds r)) := by
 unfold i_copyNets at h
 refine ac_fn mixed Tryz.func116 rfl rfl rfl (by kernel_rfl) (by kernel_rfl) ?_
 try simp only [go_sem]
 have hj := posF_to rfl rfl (i_copyNets_l1_ok fuel a0 [] 0 _ h)
 refine loop_to hj (.one ⟨_, .slot 3 2000000000 (some 1) false (by simp only [go_sem]) (by simp only [go_sem]) (.done _), [(1000000000, 2000000000)], [], ?_⟩)
 clear hj
 simp only [go_sem]
 all_goals try rfl
theorem i_copyJob_ok (a0 : Job) (r : Job) (h : i_copyJob a0 = some r) : AC Tryz.prog 67 [.agg (Job.avs a0)] (.agg (Job.rv r)) := by
 unfold i_copyJob at h
 refine ac_fn mixed Tryz.func67 rfl rfl rfl (by kernel_rfl) (by kernel_rfl) ?_
 try simp only [go_sem]
 refine draw_i [false, false, false, false, false, false, false, false, false, false, false, false, false, true, true, true, true, true, true, true] (Tr.sq [13, 14, 15, 16, 17, 18, 19] .fin) (by kernel_rfl) ?_
 try simp only [go_sem]
 replace h := bindE h
 obtain ⟨v2002, hv2002, h⟩ := h
 refine call_i (g_Clone_sint64_ok _ _ hv2002) ?_
 try simp only [go_sem]
 replace h := bindE h
 obtain ⟨v2005, hv2005, h⟩ := h
 refine call_i (g_Clone_sint64_ok _ _ hv2005) ?_
 try simp only [go_sem]
 replace h := bindE h
 obtain ⟨v2008, hv2008, h⟩ := h
 refine call_i (i_copyNets_ok _ _ hv2008) ?_
 try simp only [go_sem]
 replace h := bindE h
 obtain ⟨v2011, hv2011, h⟩ := h
 refine call_i (i_copyNet_ok _ _ hv2011) ?_
 try simp only [go_sem]
 refine seq_go ?_
 try simp only [go_sem]
 cases h
 simp only [go_sem]
theorem i_copyQueue_l2_ok (n : Nat) : (∀ (a0 : Queue) (p1_0 : List Job) (p1_1 : Int) (r : Queue), i_copyQueue_l2 n a0 p1_0 p1_1 = some r → posF Tryz.prog Tryz.f66 [1, 1, 1, 0, 1, 0] (.agg (Queue.rv r)) ⟨[(1, .box 1000001500 0), (2, .box 1000001501 0), (9, .ro (List.map Job.ds a0.jobs)), (10, .int .i64 ((List.length a0.jobs : Nat) : Int)), (11, .int .i64 p1_1)], [(1000001000, some ⟨List.map Job.ds p1_0, some 10, 0, false⟩)], [(1000001500, some [.int .i64 a0.quantum, .int .i64 a0.nextId, .int .i64 a0.turn, .own 1000001000]), (1000001501, some [.int .i64 0, .int .i64 0, .int .i64 0, .nils])]⟩) := by
 induction n with
 | zero => exact ((fun _ _ _ _ h => by rw [i_copyQueue_l2] at h; cases h))
 | succ n ih =>
  have ih0 := ih
  ·intro a0 p1_0 p1_1 r h
   rw [i_copyQueue_l2] at h
   refine posF_of rfl rfl ?_
   try simp only [go_sem]
   refine loop_i ?_
   try simp only [go_sem]
   refine cond_i (fun hb1 => ?_) (fun hb1 => ?_)
   ·replace h := ifT (c := (decide (p1_1 < ((List.length a0.jobs : Nat) : Int)))) hb1 h
    try simp only [go_sem]
    refine seq_go ?_
    try simp only [go_sem]
    replace h := bindE h
    obtain ⟨v6000, hv6000, h⟩ := h
    refine idx_m hv6000 (Job.ds_len _) ?_
    try simp only [go_sem]
    refine draw_i [false, false, false, false, false, true, true, true] (Tr.sq [5, 6, 7] .fin) (by kernel_rfl) ?_
    try simp only [go_sem]
    replace h := bindE h
    obtain ⟨v7003, hv7003, h⟩ := h
    refine call_i (i_copyJob_ok _ _ hv7003) ?_
    try simp only [go_sem]
    replace h := bindE h
    obtain ⟨v7005, hv7005, h⟩ := h
    have hq_ := app_some hv7005
    obtain ⟨hv7005a, hv7005b⟩ := hq_
    refine zed_i false ?_
    try simp only [go_sem]
    refine and_i (by refine ⟨?_, ?_⟩ <;> (try simp only [List.length_map, List.length_append, List.length_cons, List.length_nil] at *) <;> (try unfold maxLen) <;> omega) ?_
    try simp only [go_sem]
    refine row_i (List.map Job.ds v7005) (by rw [← hv7005b]; simp only [List.map_append, List.map_cons, List.map_nil, List.nil_append, List.append_nil, go_sem, Job.ds_eq]) ?_
    try simp only [go_sem]
    refine seq_go ?_
    try simp only [go_sem]
    have hj := posF_to rfl rfl (ih0 a0 v7005 (IntKind.i64.wrap (p1_1 + 1)) _ h)
    refine lp_to hj (.one ⟨_, .done _, [(1000001000, 112080)], [(1000001500, 1000001500), (1000001501, 1000001501)], ?_⟩)
    clear hj
    try simp only [go_sem]
   ·replace h := ifF (c := (decide (p1_1 < ((List.length a0.jobs : Nat) : Int)))) hb1 h
    try simp only [go_sem]
    refine seq_go ?_
    try simp only [go_sem]
    cases h
    simp only [go_sem]
theorem i_copyQueue_ok (a0 : Queue) (r : Queue) (h : i_copyQueue a0 = some r) : AC Tryz.prog 66 [.agg (Queue.avs a0)] (.agg (Queue.rv r)) := by
 unfold i_copyQueue at h
 refine ac_fn mixed Tryz.func66 rfl rfl rfl (by kernel_rfl) (by kernel_rfl) ?_
 try simp only [go_sem]
 have hj := posF_to rfl rfl (i_copyQueue_l2_ok fuel a0 [] 0 _ h)
 refine loop_to hj (.one ⟨_, .cell 1000 3 2000000000 (some 10) false _ (by simp only [go_sem]; rfl) (by rfl) (by simp only [go_sem]) (.done _), [(1000001000, 2000000000)], [(1000001500, 1000), (1000001501, 1001)], ?_⟩)
 clear hj
 simp only [go_sem]
 all_goals try rfl
theorem s_l34Find_l1_ok (n : Nat) : (∀ (a0 : Queue) (a1 : Int) (p0_0 : Int) (r : Int), s_l34Find_l1 n a0 a1 p0_0 = some r → posF Tryz.prog Tryz.f172 [1, 0, 1, 0] (.int .i64 r) ⟨[(0, .rop [.int .i64 a0.quantum, .int .i64 a0.nextId, .int .i64 a0.turn, .ro (List.map Job.ds a0.jobs)] 0), (1, .int .i64 a1), (5, .int .i64 p0_0)], [], []⟩) := by
 induction n with
 | zero => exact ((fun _ _ _ _ h => by rw [s_l34Find_l1] at h; cases h))
 | succ n ih =>
  have ih0 := ih
  ·intro a0 a1 p0_0 r h
   rw [s_l34Find_l1] at h
   refine posF_of rfl rfl ?_
   try simp only [go_sem]
   refine loop_i ?_
   try simp only [go_sem]
   refine cond_i (fun hb1 => ?_) (fun hb1 => ?_)
   ·replace h := ifT (c := (decide (p0_0 < ((List.length a0.jobs : Nat) : Int)))) hb1 h
    try simp only [go_sem]
    refine seq_go ?_
    try simp only [go_sem]
    replace h := bindE h
    obtain ⟨v5005, hv5005, h⟩ := h
    refine idx_m hv5005 (Job.ds_len _) ?_
    try simp only [go_sem]
    refine cond_i (fun hb2 => ?_) (fun hb2 => ?_)
    ·replace h := ifT (c := (decide (v5005.id = a1))) hb2 h
     try simp only [go_sem]
     cases h
     simp only [go_sem]
    ·replace h := ifF (c := (decide (v5005.id = a1))) hb2 h
     try simp only [go_sem]
     refine seq_go ?_
     try simp only [go_sem]
     have hj := posF_to rfl rfl (ih0 a0 a1 (IntKind.i64.wrap (p0_0 + 1)) _ h)
     refine lp_to hj (.one ⟨_, .done _, [], [], ?_⟩)
     clear hj
     try simp only [go_sem]
   ·replace h := ifF (c := (decide (p0_0 < ((List.length a0.jobs : Nat) : Int)))) hb1 h
    try simp only [go_sem]
    refine seq_go ?_
    try simp only [go_sem]
    cases h
    simp only [go_sem]
theorem s_l34Find_ok (a0 : Queue) (a1 : Int) (r : Int) (h : s_l34Find a0 a1 = some r) : AC Tryz.prog 172 [.rop (Queue.avs a0) 0, .int .i64 a1] (.int .i64 r) := by
 unfold s_l34Find at h
 refine ac_fn mixed Tryz.func172 rfl rfl rfl (by kernel_rfl) (by kernel_rfl) ?_
 try simp only [go_sem]
 have hj := posF_to rfl rfl (s_l34Find_l1_ok fuel a0 a1 0 _ h)
 refine loop_to hj (.one ⟨_, .done _, [], [], ?_⟩)
 clear hj
 try simp only [go_sem]
theorem s_l34Asked_ok (a0 : Queue) (a1 : Int) (r : Int × Int) (h : s_l34Asked a0 a1 = some r) : AC Tryz.prog 100 [.rop (Queue.avs a0) 0, .int .i64 a1] (.tup [.int .i64 r.1, .int .i64 r.2]) := by
 unfold s_l34Asked at h
 refine ac_fn mixed Tryz.func100 rfl rfl rfl (by kernel_rfl) (by kernel_rfl) ?_
 try simp only [go_sem]
 replace h := bindE h
 obtain ⟨v2001, hv2001, h⟩ := h
 refine call_i (s_l34Ok_ok _ _ hv2001) ?_
 try simp only [go_sem]
 refine seq_go ?_
 try simp only [go_sem]
 refine cond_i (fun hb1 => ?_) (fun hb1 => ?_)
 ·replace h := ifT (c := (!v2001)) hb1 h
  try simp only [go_sem]
  cases h
  simp only [go_sem]
 ·replace h := ifF (c := (!v2001)) hb1 h
  try simp only [go_sem]
  refine seq_go ?_
  try simp only [go_sem]
  replace h := bindE h
  obtain ⟨v4002, hv4002, h⟩ := h
  refine call_i (s_l34Find_ok _ _ _ hv4002) ?_
  try simp only [go_sem]
  refine seq_go ?_
  try simp only [go_sem]
  refine cond_i (fun hb2 => ?_) (fun hb2 => ?_)
  ·replace h := ifT (c := (decide (v4002 < 0))) hb2 h
   try simp only [go_sem]
   cases h
   simp only [go_sem]
  ·replace h := ifF (c := (decide (v4002 < 0))) hb2 h
   try simp only [go_sem]
   refine seq_go ?_
   try simp only [go_sem]
   cases h
   simp only [go_sem]
theorem g_IndexFunc_simpl_Job_l1_ok (n : Nat) : (∀ (a0 : List Job) (p0_0 : Int) (f1 : (Job → Option Bool)) (g1 : FuncId) (c1 : List AV) (s1 : Still c1) (h1 : ∀ (y0 : Job) (q : Bool), f1 y0 = some q → AC Tryz.prog g1 (.agg (Job.avs y0) :: c1) (.bool q)) (r : Int), g_IndexFunc_simpl_Job_l1 n a0 p0_0 f1 = some r → posF Tryz.prog Tryz.f216 [1, 0, 1, 0] (.int .i64 r) ⟨[(0, .ro (List.map Job.ds a0)), (1, .fn g1 c1), (7, .int .i64 ((List.length a0 : Nat) : Int)), (8, .int .i64 p0_0)], [], []⟩) := by
 induction n with
 | zero => exact ((fun _ _ _ _ _ _ _ _ h => by rw [g_IndexFunc_simpl_Job_l1] at h; cases h))
 | succ n ih =>
  have ih0 := ih
  ·intro a0 p0_0 f1 g1 c1 s1 h1 r h
   rw [g_IndexFunc_simpl_Job_l1] at h
   refine posF_of rfl rfl ?_
   try simp only [go_sem, s1.k, s1.r, s1.c, s1.p]
   refine loop_i ?_
   try simp only [go_sem, s1.k, s1.r, s1.c, s1.p]
   refine cond_i (fun hb1 => ?_) (fun hb1 => ?_)
   ·replace h := ifT (c := (decide (p0_0 < ((List.length a0 : Nat) : Int)))) hb1 h
    try simp only [go_sem, s1.k, s1.r, s1.c, s1.p]
    refine seq_go ?_
    try simp only [go_sem, s1.k, s1.r, s1.c, s1.p]
    replace h := bindE h
    obtain ⟨v5003, hv5003, h⟩ := h
    refine idx_m hv5003 (Job.ds_len _) ?_
    try simp only [go_sem, s1.k, s1.r, s1.c, s1.p]
    replace h := bindE h
    obtain ⟨v5005, hv5005, h⟩ := h
    refine call_i (h1 _ _ hv5005) ?_
    try simp only [go_sem, s1.k, s1.r, s1.c, s1.p]
    refine seq_go ?_
    try simp only [go_sem, s1.k, s1.r, s1.c, s1.p]
    refine cond_i (fun hb2 => ?_) (fun hb2 => ?_)
    ·replace h := ifT (c := v5005) hb2 h
     try simp only [go_sem, s1.k, s1.r, s1.c, s1.p]
     cases h
     simp only [go_sem, s1.k, s1.r, s1.c, s1.p]
    ·replace h := ifF (c := v5005) hb2 h
     try simp only [go_sem, s1.k, s1.r, s1.c, s1.p]
     refine seq_go ?_
     try simp only [go_sem, s1.k, s1.r, s1.c, s1.p]
     have hj := posF_to rfl rfl (ih0 a0 (IntKind.i64.wrap (p0_0 + 1)) f1 g1 c1 s1 h1 _ h)
     refine lp_to hj (.one ⟨_, .done _, [], [], ?_⟩)
     clear hj
     try simp only [go_sem, s1.k, s1.r, s1.c, s1.p]
   ·replace h := ifF (c := (decide (p0_0 < ((List.length a0 : Nat) : Int)))) hb1 h
    try simp only [go_sem, s1.k, s1.r, s1.c, s1.p]
    refine seq_go ?_
    try simp only [go_sem, s1.k, s1.r, s1.c, s1.p]
    cases h
    simp only [go_sem, s1.k, s1.r, s1.c, s1.p]
theorem g_IndexFunc_simpl_Job_ok (a0 : List Job) (f1 : (Job → Option Bool)) (g1 : FuncId) (c1 : List AV) (s1 : Still c1) (h1 : ∀ (y0 : Job) (q : Bool), f1 y0 = some q → AC Tryz.prog g1 (.agg (Job.avs y0) :: c1) (.bool q)) (r : Int) (h : g_IndexFunc_simpl_Job a0 f1 = some r) : AC Tryz.prog 216 [.ro (List.map Job.ds a0), .fn g1 c1] (.int .i64 r) := by
 unfold g_IndexFunc_simpl_Job at h
 refine ac_fn mixed Tryz.func216 rfl rfl rfl (by kernel_rfl) (by kernel_rfl) ?_
 try simp only [go_sem, s1.k, s1.r, s1.c, s1.p]
 have hj := posF_to rfl rfl (g_IndexFunc_simpl_Job_l1_ok fuel a0 0 f1 g1 c1 s1 h1 _ h)
 refine loop_to hj (.one ⟨_, .done _, [], [], ?_⟩)
 clear hj
 try simp only [go_sem, s1.k, s1.r, s1.c, s1.p]
theorem i_Queue_place_1_ok (a0 : Job) (a1 : Int) (r : Bool) (h : i_Queue_place_1 a0 a1 = some r) : AC Tryz.prog 217 [.agg (Job.avs a0), .rop [.int .i64 a1] 0] (.bool r) := by
 unfold i_Queue_place_1 at h
 refine ac_fn mixed Tryz.func217 rfl rfl rfl (by kernel_rfl) (by kernel_rfl) ?_
 try simp only [go_sem]
 cases h
 simp only [go_sem]
theorem i_Queue_place_ok (a0 : Queue) (a1 : Int) (r : Int × Int) (h : i_Queue_place a0 a1 = some r) : AC Tryz.prog 173 [.rop (Queue.avs a0) 0, .int .i64 a1] (.tup [.int .i64 r.1, .int .i64 r.2]) := by
 unfold i_Queue_place at h
 refine ac_fn mixed Tryz.func173 rfl rfl rfl (by kernel_rfl) (by kernel_rfl) ?_
 try simp only [go_sem]
 replace h := bindE h
 obtain ⟨v2005, hv2005, h⟩ := h
 refine call_i (g_IndexFunc_simpl_Job_ok _ _ 217 [.rop [.int .i64 a1] 0] (Still.of (by simp only [pureAs, pureA, Bool.and_true, Bool.true_and, Bool.and_self])) (fun y0 q hq => i_Queue_place_1_ok y0 _ q hq) _ hv2005) ?_
 try simp only [go_sem]
 refine seq_go ?_
 try simp only [go_sem]
 refine cond_i (fun hb1 => ?_) (fun hb1 => ?_)
 ·replace h := ifT (c := (decide (v2005 < 0))) hb1 h
  try simp only [go_sem]
  cases h
  simp only [go_sem]
 ·replace h := ifF (c := (decide (v2005 < 0))) hb1 h
  try simp only [go_sem]
  refine seq_go ?_
  try simp only [go_sem]
  cases h
  simp only [go_sem]
theorem i_Queue_found_ok (a0 : Queue) (a1 : Int) (r : Int × Int) (h : i_Queue_found a0 a1 = some r) : AC Tryz.prog 101 [.rop (Queue.avs a0) 0, .int .i64 a1] (.tup [.int .i64 r.1, .int .i64 r.2]) := by
 unfold i_Queue_found at h
 refine ac_fn mixed Tryz.func101 rfl rfl rfl (by kernel_rfl) (by kernel_rfl) ?_
 try simp only [go_sem]
 replace h := bindE h
 obtain ⟨v2003, hv2003, h⟩ := h
 refine call_i (i_ValidQueue_ok _ _ hv2003) ?_
 try simp only [go_sem]
 refine seq_go ?_
 try simp only [go_sem]
 refine cond_i (fun hb1 => ?_) (fun hb1 => ?_)
 ·replace h := ifT (c := (!v2003)) hb1 h
  try simp only [go_sem]
  cases h
  simp only [go_sem]
 ·replace h := ifF (c := (!v2003)) hb1 h
  try simp only [go_sem]
  refine seq_go ?_
  try simp only [go_sem]
  replace h := bindE h
  obtain ⟨v4002, hv4002, h⟩ := h
  refine call_i (i_Queue_place_ok _ _ _ hv4002) ?_
  try simp only [go_sem]
  refine seq_go ?_
  try simp only [go_sem]
  cases h
  simp only [go_sem]
end Go.Proofs.YtckcfdggbbabfaaGreat.Ab
