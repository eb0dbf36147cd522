/-
 The functions do what their models say. Printed by wip/ab/gen.py.
-/
import Derived.Test.YtckcfdggbbabfaaGreatModB
import Derived.Test.YtckcfdggbbabfaaGreatTi2
import Derived.Test.YtckcfdggbbabfaaGreatWlkJ
namespace Go.Proofs.YtckcfdggbbabfaaGreat.Ab
set_option linter.unusedVariables false
set_option linter.unusedSimpArgs false
set_option maxRecDepth 20000
set_option maxHeartbeats 4000000
open Go.RowKit
theorem s_l15Asked_j2_ok (p1_0 : Bool) (r : Int) (h : s_l15Asked_j2 p1_0 = some r) : posF Tryz.prog Tryz.f58 [1, 1, 0, 1] (.int .i64 r) ⟨[(24, .bool p1_0)], [], []⟩ := by
 unfold s_l15Asked_j2 at h
 refine posF_of rfl rfl ?_
 try simp only [go_sem]
 refine cond_i (fun hb4 => ?_) (fun hb4 => ?_)
 ·replace h := ifT (c := p1_0) hb4 h
  try simp only [go_sem]
  cases h
  simp only [go_sem]
 ·replace h := ifF (c := p1_0) hb4 h
  try simp only [go_sem]
  refine seq_go ?_
  try simp only [go_sem]
  cases h
  simp only [go_sem]
theorem s_l15Asked_j1_ok (a2 : List Int) (a3 : Int) (p0_0 : Bool) (r : Int) (h : s_l15Asked_j1 a2 a3 p0_0 = some r) : posF Tryz.prog Tryz.f58 [1, 0, 1] (.int .i64 r) ⟨[(2, .ro (List.map i64D a2)), (3, .int .i64 a3), (16, .bool p0_0)], [], []⟩ := by
 unfold s_l15Asked_j1 at h
 refine posF_of rfl rfl ?_
 try simp only [go_sem]
 refine cond_i (fun hb2 => ?_) (fun hb2 => ?_)
 ·replace h := ifT (c := p0_0) hb2 h
  try simp only [go_sem]
  cases h
  simp only [go_sem]
 ·replace h := ifF (c := p0_0) hb2 h
  try simp only [go_sem]
  refine seq_go ?_
  try simp only [go_sem]
  replace h := bindE h
  obtain ⟨v4001, hv4001, h⟩ := h
  refine call_i (s_l15Schedule_ok _ _ hv4001) ?_
  try simp only [go_sem]
  refine cond_i (fun hb3 => ?_) (fun hb3 => ?_)
  ·replace h := ifT (c := (!v4001)) hb3 h
   try simp only [go_sem]
   have hj := posF_to rfl rfl (s_l15Asked_j2_ok true _ h)
   refine seq_to hj (.one ⟨_, .done _, [], [], ?_⟩)
   clear hj
   try simp only [go_sem]
  ·replace h := ifF (c := (!v4001)) hb3 h
   try simp only [go_sem]
   replace h := bindE h
   obtain ⟨v4005, hv4005, h⟩ := h
   refine call_i (s_l00In_ok _ _ _ _ hv4005) ?_
   try simp only [go_sem]
   have hj := posF_to rfl rfl (s_l15Asked_j2_ok (!v4005) _ h)
   refine seq_to hj (.one ⟨_, .done _, [], [], ?_⟩)
   clear hj
   try simp only [go_sem]
theorem s_l15Asked_ok (a0 : List Net) (a1 : Net) (a2 : List Int) (a3 : Int) (r : Int) (h : s_l15Asked a0 a1 a2 a3 = some r) : AC Tryz.prog 58 [.ro (List.map Net.ds a0), .rop (Net.avs a1) 0, .ro (List.map i64D a2), .int .i64 a3] (.int .i64 r) := by
 unfold s_l15Asked at h
 refine ac_fn mixed Tryz.func58 rfl rfl rfl (by kernel_rfl) (by kernel_rfl) ?_
 try simp only [go_sem]
 replace h := bindE h
 obtain ⟨v2001, hv2001, h⟩ := h
 refine call_i (s_l13Book_ok _ _ hv2001) ?_
 try simp only [go_sem]
 refine cond_i (fun hb1 => ?_) (fun hb1 => ?_)
 ·replace h := ifT (c := (!v2001)) hb1 h
  try simp only [go_sem]
  have hj := posF_to rfl rfl (s_l15Asked_j1_ok a2 a3 true _ h)
  refine seq_to hj (.one ⟨_, .done _, [], [], ?_⟩)
  clear hj
  try simp only [go_sem]
 ·replace h := ifF (c := (!v2001)) hb1 h
  try simp only [go_sem]
  replace h := bindE h
  obtain ⟨v2005, hv2005, h⟩ := h
  refine call_i (s_l11Ok_ok _ _ hv2005) ?_
  try simp only [go_sem]
  have hj := posF_to rfl rfl (s_l15Asked_j1_ok a2 a3 (!v2005) _ h)
  refine seq_to hj (.one ⟨_, .done _, [], [], ?_⟩)
  clear hj
  try simp only [go_sem]
theorem s_AddJob_j4_ok (a0 : Queue) (a1 : List Net) (a2 : Net) (a3 : List Int) (a4 : Int) (a5 : Int) (p3_0 : Int) (r : Queue × Int × Int) (h : s_AddJob_j4 a0 a1 a2 a3 a4 a5 p3_0 = some r) : posF Tryz.prog Tryz.f15 [1, 1, 1, 1, 1] (.tup [.agg (Queue.rv r.1), .int .i64 r.2.1, .int .i64 r.2.2]) ⟨[(1, .ro (List.map Net.ds a1)), (3, .ro (List.map i64D a3)), (4, .int .i64 a4), (5, .int .i64 a5), (6, .box 1000003500 0), (8, .box 1000003501 0), (12, .box 1000003502 0), (15, .int .i64 p3_0)], [], [(1000003500, some [.int .i64 a0.quantum, .int .i64 a0.nextId, .int .i64 a0.turn, .ro (List.map Job.ds a0.jobs)]), (1000003501, some [.ro (List.map Agent.ds a2.agents)]), (1000003502, some [.int .i64 0, .int .i64 0, .int .i64 0, .nils])]⟩ := by
 unfold s_AddJob_j4 at h
 refine posF_of rfl rfl ?_
 try simp only [go_sem]
 refine cond_i (fun hb6 => ?_) (fun hb6 => ?_)
 ·replace h := ifT (c := (!decide (p3_0 = 0))) hb6 h
  try simp only [go_sem]
  cases h
  simp only [go_sem]
 ·replace h := ifF (c := (!decide (p3_0 = 0))) hb6 h
  try simp only [go_sem]
  refine seq_go ?_
  try simp only [go_sem]
  replace h := bindE h
  obtain ⟨v11000, hv11000, h⟩ := h
  refine call_i (s_l34Own_ok _ _ hv11000) ?_
  try simp only [go_sem]
  refine draw_i [false, false, false, false, true, true, true] (Tr.sq [4, 5, 6] .fin) (by kernel_rfl) ?_
  try simp only [go_sem]
  replace h := bindE h
  obtain ⟨v13002, hv13002, h⟩ := h
  refine call_i (s_l34OwnJob_ok _ _ hv13002) ?_
  try simp only [go_sem]
  replace h := bindE h
  obtain ⟨v13004, hv13004, h⟩ := h
  have hq_ := app_some hv13004
  obtain ⟨hv13004a, hv13004b⟩ := hq_
  refine and_i (by refine ⟨?_, ?_⟩ <;> (try simp only [List.length_map, List.length_append, List.length_cons, List.length_nil] at *) <;> (try unfold maxLen) <;> omega) ?_
  try simp only [go_sem]
  refine row_i (List.map Job.ds v13004) (by rw [← hv13004b]; simp only [List.map_append, List.map_cons, List.map_nil, List.nil_append, List.append_nil, go_sem, Job.ds_eq]) ?_
  try simp only [go_sem]
  refine seq_go ?_
  try simp only [go_sem]
  refine draw_i [true, false, true, true, true, true] (.br 0 (.br 2 (Tr.sq [3, 4, 5] .fin) (.br 3 (Tr.sq [2, 4, 5] .fin) .stop)) (.br 2 (Tr.sq [0, 3, 4, 5] .fin) .stop)) (by kernel_rfl) ?_
  try simp only [go_sem]
  try simp only [go_sem]
  refine alt_i ?_ ?_
  ·try simp only [go_sem]
   try simp only [go_sem]
   refine alt_i ?_ ?_
   ·try simp only [go_sem]
    refine seq_go ?_
    try simp only [go_sem]
    cases h
    simp only [go_sem]
   ·try simp only [go_sem]
    refine seq_go ?_
    try simp only [go_sem]
    cases h
    simp only [go_sem]
  ·try simp only [go_sem]
   refine seq_go ?_
   try simp only [go_sem]
   cases h
   simp only [go_sem]
theorem s_AddJob_j3_ok (a0 : Queue) (a1 : List Net) (a2 : Net) (a3 : List Int) (a4 : Int) (a5 : Int) (p1_0 : Int) (p2_0 : Bool) (r : Queue × Int × Int) (h : s_AddJob_j3 a0 a1 a2 a3 a4 a5 p1_0 p2_0 = some r) : posF Tryz.prog Tryz.f15 [1, 1, 1, 1, 0, 1] (.tup [.agg (Queue.rv r.1), .int .i64 r.2.1, .int .i64 r.2.2]) ⟨[(1, .ro (List.map Net.ds a1)), (3, .ro (List.map i64D a3)), (4, .int .i64 a4), (5, .int .i64 a5), (6, .box 1000002500 0), (8, .box 1000002501 0), (12, .box 1000002502 0), (15, .int .i64 p1_0), (44, .bool p2_0)], [], [(1000002500, some [.int .i64 a0.quantum, .int .i64 a0.nextId, .int .i64 a0.turn, .ro (List.map Job.ds a0.jobs)]), (1000002501, some [.ro (List.map Agent.ds a2.agents)]), (1000002502, some [.int .i64 0, .int .i64 0, .int .i64 0, .nils])]⟩ := by
 unfold s_AddJob_j3 at h
 refine posF_of rfl rfl ?_
 try simp only [go_sem]
 refine cond_i (fun hb7 => ?_) (fun hb7 => ?_)
 ·replace h := ifT (c := p2_0) hb7 h
  try simp only [go_sem]
  have hj := posF_to rfl rfl (s_AddJob_j4_ok a0 a1 a2 a3 a4 a5 4 _ h)
  refine seq_to hj (.one ⟨_, .done _, [], [(1000003500, 1000002500), (1000003501, 1000002501), (1000003502, 1000002502)], ?_⟩)
  clear hj
  try simp only [go_sem]
 ·replace h := ifF (c := p2_0) hb7 h
  try simp only [go_sem]
  have hj := posF_to rfl rfl (s_AddJob_j4_ok a0 a1 a2 a3 a4 a5 p1_0 _ h)
  refine seq_to hj (.one ⟨_, .done _, [], [(1000003500, 1000002500), (1000003501, 1000002501), (1000003502, 1000002502)], ?_⟩)
  clear hj
  try simp only [go_sem]
theorem s_AddJob_j2_ok (a0 : Queue) (a1 : List Net) (a2 : Net) (a3 : List Int) (a4 : Int) (a5 : Int) (p1_0 : Int) (r : Queue × Int × Int) (h : s_AddJob_j2 a0 a1 a2 a3 a4 a5 p1_0 = some r) : posF Tryz.prog Tryz.f15 [1, 1, 1, 1] (.tup [.agg (Queue.rv r.1), .int .i64 r.2.1, .int .i64 r.2.2]) ⟨[(1, .ro (List.map Net.ds a1)), (3, .ro (List.map i64D a3)), (4, .int .i64 a4), (5, .int .i64 a5), (6, .box 1000001500 0), (8, .box 1000001501 0), (12, .box 1000001502 0), (15, .int .i64 p1_0)], [], [(1000001500, some [.int .i64 a0.quantum, .int .i64 a0.nextId, .int .i64 a0.turn, .ro (List.map Job.ds a0.jobs)]), (1000001501, some [.ro (List.map Agent.ds a2.agents)]), (1000001502, some [.int .i64 0, .int .i64 0, .int .i64 0, .nils])]⟩ := by
 unfold s_AddJob_j2 at h
 refine posF_of rfl rfl ?_
 try simp only [go_sem]
 refine cond_i (fun hb3 => ?_) (fun hb3 => ?_)
 ·replace h := ifT (c := (decide (p1_0 = 0))) hb3 h
  try simp only [go_sem]
  refine cond_i (fun hb4 => ?_) (fun hb4 => ?_)
  ·replace h := ifT (c := (decide (((List.length a0.jobs : Nat) : Int) = 6))) hb4 h
   try simp only [go_sem]
   have hj := posF_to rfl rfl (s_AddJob_j3_ok a0 a1 a2 a3 a4 a5 p1_0 true _ h)
   refine seq_to hj (.one ⟨_, .done _, [], [(1000002500, 1000001500), (1000002501, 1000001501), (1000002502, 1000001502)], ?_⟩)
   clear hj
   try simp only [go_sem]
  ·replace h := ifF (c := (decide (((List.length a0.jobs : Nat) : Int) = 6))) hb4 h
   try simp only [go_sem]
   have hj := posF_to rfl rfl (s_AddJob_j3_ok a0 a1 a2 a3 a4 a5 p1_0 (decide (a0.nextId = 1000000000)) _ h)
   refine seq_to hj (.one ⟨_, .done _, [], [(1000002500, 1000001500), (1000002501, 1000001501), (1000002502, 1000001502)], ?_⟩)
   clear hj
   try simp only [go_sem]
 ·replace h := ifF (c := (decide (p1_0 = 0))) hb3 h
  try simp only [go_sem]
  have hj := posF_to rfl rfl (s_AddJob_j3_ok a0 a1 a2 a3 a4 a5 p1_0 false _ h)
  refine seq_to hj (.one ⟨_, .done _, [], [(1000002500, 1000001500), (1000002501, 1000001501), (1000002502, 1000001502)], ?_⟩)
  clear hj
  try simp only [go_sem]
theorem s_AddJob_j1_ok (a0 : Queue) (a1 : List Net) (a2 : Net) (a3 : List Int) (a4 : Int) (a5 : Int) (v4003 : Int) (p0_0 : Bool) (r : Queue × Int × Int) (h : s_AddJob_j1 a0 a1 a2 a3 a4 a5 v4003 p0_0 = some r) : posF Tryz.prog Tryz.f15 [1, 1, 1, 0, 1] (.tup [.agg (Queue.rv r.1), .int .i64 r.2.1, .int .i64 r.2.2]) ⟨[(1, .ro (List.map Net.ds a1)), (3, .ro (List.map i64D a3)), (4, .int .i64 a4), (5, .int .i64 a5), (6, .box 1000000500 0), (8, .box 1000000501 0), (12, .box 1000000502 0), (15, .int .i64 v4003), (31, .bool p0_0)], [], [(1000000500, some [.int .i64 a0.quantum, .int .i64 a0.nextId, .int .i64 a0.turn, .ro (List.map Job.ds a0.jobs)]), (1000000501, some [.ro (List.map Agent.ds a2.agents)]), (1000000502, some [.int .i64 0, .int .i64 0, .int .i64 0, .nils])]⟩ := by
 unfold s_AddJob_j1 at h
 refine posF_of rfl rfl ?_
 try simp only [go_sem]
 refine cond_i (fun hb5 => ?_) (fun hb5 => ?_)
 ·replace h := ifT (c := p0_0) hb5 h
  try simp only [go_sem]
  have hj := posF_to rfl rfl (s_AddJob_j2_ok a0 a1 a2 a3 a4 a5 2 _ h)
  refine seq_to hj (.one ⟨_, .done _, [], [(1000001500, 1000000500), (1000001501, 1000000501), (1000001502, 1000000502)], ?_⟩)
  clear hj
  try simp only [go_sem]
 ·replace h := ifF (c := p0_0) hb5 h
  try simp only [go_sem]
  have hj := posF_to rfl rfl (s_AddJob_j2_ok a0 a1 a2 a3 a4 a5 v4003 _ h)
  refine seq_to hj (.one ⟨_, .done _, [], [(1000001500, 1000000500), (1000001501, 1000000501), (1000001502, 1000000502)], ?_⟩)
  clear hj
  try simp only [go_sem]
theorem s_AddJob_ok (a0 : Queue) (a1 : List Net) (a2 : Net) (a3 : List Int) (a4 : Int) (a5 : Int) (r : Queue × Int × Int) (h : s_AddJob a0 a1 a2 a3 a4 a5 = some r) : AC Tryz.prog 15 [.agg (Queue.avs a0), .ro (List.map Net.ds a1), .agg (Net.avs a2), .ro (List.map i64D a3), .int .i64 a4, .int .i64 a5] (.tup [.agg (Queue.rv r.1), .int .i64 r.2.1, .int .i64 r.2.2]) := by
 unfold s_AddJob at h
 refine ac_fn mixed Tryz.func15 rfl rfl rfl (by kernel_rfl) (by kernel_rfl) ?_
 try simp only [go_sem]
 replace h := bindE h
 obtain ⟨v2000, hv2000, h⟩ := h
 refine call_i (s_l34Ok_ok _ _ hv2000) ?_
 try simp only [go_sem]
 refine cond_i (fun hb1 => ?_) (fun hb1 => ?_)
 ·replace h := ifT (c := (!v2000)) hb1 h
  try simp only [go_sem]
  cases h
  simp only [go_sem]
 ·replace h := ifF (c := (!v2000)) hb1 h
  try simp only [go_sem]
  refine seq_go ?_
  try simp only [go_sem]
  replace h := bindE h
  obtain ⟨v4003, hv4003, h⟩ := h
  refine call_i (s_l15Asked_ok _ _ _ _ _ hv4003) ?_
  try simp only [go_sem]
  refine cond_i (fun hb2 => ?_) (fun hb2 => ?_)
  ·replace h := ifT (c := (decide (v4003 = 0))) hb2 h
   try simp only [go_sem]
   replace h := bindE h
   obtain ⟨v5004, hv5004, h⟩ := h
   refine call_i (s_l00In_ok _ _ _ _ hv5004) ?_
   try simp only [go_sem]
   have hj := posF_to rfl rfl (s_AddJob_j1_ok a0 a1 a2 a3 a4 a5 v4003 (!v5004) _ h)
   refine seq_to hj (.one ⟨_, .done _, [], [(1000000500, 1000), (1000000501, 1001), (1000000502, 1002)], ?_⟩)
   clear hj
   try simp only [go_sem]
  ·replace h := ifF (c := (decide (v4003 = 0))) hb2 h
   try simp only [go_sem]
   have hj := posF_to rfl rfl (s_AddJob_j1_ok a0 a1 a2 a3 a4 a5 v4003 false _ h)
   refine seq_to hj (.one ⟨_, .done _, [], [(1000000500, 1000), (1000000501, 1001), (1000000502, 1002)], ?_⟩)
   clear hj
   try simp only [go_sem]
theorem i_newRewriter_ok (a0 : List Net) (a1 : Net) (r : Rewriter) (h : i_newRewriter a0 a1 = some r) : AG Tryz.prog 80 [.ro (List.map Net.ds a0), .agg [.ro (List.map Agent.ds a1.agents)]] [] [] (.box 1601 0) [(1501, ⟨List.map Agent.ds r.net.agents, some 5, 0⟩)] [(1601, [.own 1501, .ro (List.map Net.ds r.book), .mpr 1602]), (1602, [.mpc (.int .i64) (List.map prB r.removed)])] := by
 unfold i_newRewriter at h
 refine ag_fn mixed Tryz.func80 rfl rfl rfl (by kernel_rfl) (by kernel_rfl) ?_
 try simp only [go_sem]
 replace h := bindE h
 obtain ⟨v2001, hv2001, h⟩ := h
 refine call_i (i_copyNet_ok _ _ hv2001) ?_
 try simp only [go_sem]
 cases h
 refine ret_i (.done _) [(1501, 32016)] [(1601, 2005), (1602, 2003)] ?_
 simp only [go_sem]
theorem i_newReducer_ok (a0 : List Net) (a1 : Net) (r : Unit) (h : i_newReducer a0 a1 = some r) : AG Tryz.prog 114 [.ro (List.map Net.ds a0), .agg [.ro (List.map Agent.ds a1.agents)]] [] [] (.any) [] [] := by
 unfold i_newReducer at h
 refine ag_fn mixed Tryz.func114 rfl rfl rfl (by kernel_rfl) (by kernel_rfl) ?_
 try simp only [go_sem]
 replace h := bindE h
 obtain ⟨v2002, hv2002, h⟩ := h
 replace h := bindE h
 obtain ⟨v2003, hv2003, h⟩ := h
 refine draw_i [false, true, true, true, false, true, true, true, true, true, true] (.br 1 (.br 2 (.br 3 (Tr.sq [5, 6, 7, 8, 9, 10] .fin) (.br 5 (.br 3 (Tr.sq [6, 7, 8, 9, 10] .fin) (.br 6 (.br 3 (Tr.sq [7, 8, 9, 10] .fin) (.br 7 (Tr.sq [3, 8, 9, 10] .fin) .stop)) .stop)) .stop)) (.br 3 (.br 2 (Tr.sq [5, 6, 7, 8, 9, 10] .fin) (.br 5 (.br 2 (Tr.sq [6, 7, 8, 9, 10] .fin) (.br 6 (.br 2 (Tr.sq [7, 8, 9, 10] .fin) (.br 7 (Tr.sq [2, 8, 9, 10] .fin) .stop)) .stop)) .stop)) (.br 5 (.br 2 (.br 3 (Tr.sq [6, 7, 8, 9, 10] .fin) (.br 6 (.br 3 (Tr.sq [7, 8, 9, 10] .fin) (.br 7 (Tr.sq [3, 8, 9, 10] .fin) .stop)) .stop)) (.br 3 (.br 2 (Tr.sq [6, 7, 8, 9, 10] .fin) (.br 6 (.br 2 (Tr.sq [7, 8, 9, 10] .fin) (.br 7 (Tr.sq [2, 8, 9, 10] .fin) .stop)) .stop)) (.br 6 (.br 2 (.br 3 (Tr.sq [7, 8, 9, 10] .fin) (.br 7 (Tr.sq [3, 8, 9, 10] .fin) .stop)) (.br 3 (.br 2 (Tr.sq [7, 8, 9, 10] .fin) (.br 7 (Tr.sq [2, 8, 9, 10] .fin) .stop)) (.br 7 (.br 2 (Tr.sq [3, 8, 9, 10] .fin) (.br 3 (Tr.sq [2, 8, 9, 10] .fin) .stop)) .stop))) .stop))) .stop))) (.br 3 (.br 1 (.br 2 (Tr.sq [5, 6, 7, 8, 9, 10] .fin) (.br 5 (.br 2 (Tr.sq [6, 7, 8, 9, 10] .fin) (.br 6 (.br 2 (Tr.sq [7, 8, 9, 10] .fin) (.br 7 (Tr.sq [2, 8, 9, 10] .fin) .stop)) .stop)) .stop)) (.br 5 (.br 1 (.br 2 (Tr.sq [6, 7, 8, 9, 10] .fin) (.br 6 (.br 2 (Tr.sq [7, 8, 9, 10] .fin) (.br 7 (Tr.sq [2, 8, 9, 10] .fin) .stop)) .stop)) (.br 6 (.br 1 (.br 2 (Tr.sq [7, 8, 9, 10] .fin) (.br 7 (Tr.sq [2, 8, 9, 10] .fin) .stop)) (.br 7 (Tr.sq [1, 2, 8, 9, 10] .fin) .stop)) .stop)) .stop)) (.br 5 (.br 1 (.br 2 (.br 3 (Tr.sq [6, 7, 8, 9, 10] .fin) (.br 6 (.br 3 (Tr.sq [7, 8, 9, 10] .fin) (.br 7 (Tr.sq [3, 8, 9, 10] .fin) .stop)) .stop)) (.br 3 (.br 2 (Tr.sq [6, 7, 8, 9, 10] .fin) (.br 6 (.br 2 (Tr.sq [7, 8, 9, 10] .fin) (.br 7 (Tr.sq [2, 8, 9, 10] .fin) .stop)) .stop)) (.br 6 (.br 2 (.br 3 (Tr.sq [7, 8, 9, 10] .fin) (.br 7 (Tr.sq [3, 8, 9, 10] .fin) .stop)) (.br 3 (.br 2 (Tr.sq [7, 8, 9, 10] .fin) (.br 7 (Tr.sq [2, 8, 9, 10] .fin) .stop)) (.br 7 (.br 2 (Tr.sq [3, 8, 9, 10] .fin) (.br 3 (Tr.sq [2, 8, 9, 10] .fin) .stop)) .stop))) .stop))) (.br 3 (.br 1 (.br 2 (Tr.sq [6, 7, 8, 9, 10] .fin) (.br 6 (.br 2 (Tr.sq [7, 8, 9, 10] .fin) (.br 7 (Tr.sq [2, 8, 9, 10] .fin) .stop)) .stop)) (.br 6 (.br 1 (.br 2 (Tr.sq [7, 8, 9, 10] .fin) (.br 7 (Tr.sq [2, 8, 9, 10] .fin) .stop)) (.br 7 (Tr.sq [1, 2, 8, 9, 10] .fin) .stop)) .stop)) (.br 6 (.br 1 (.br 2 (.br 3 (Tr.sq [7, 8, 9, 10] .fin) (.br 7 (Tr.sq [3, 8, 9, 10] .fin) .stop)) (.br 3 (.br 2 (Tr.sq [7, 8, 9, 10] .fin) (.br 7 (Tr.sq [2, 8, 9, 10] .fin) .stop)) (.br 7 (.br 2 (Tr.sq [3, 8, 9, 10] .fin) (.br 3 (Tr.sq [2, 8, 9, 10] .fin) .stop)) .stop))) (.br 3 (.br 1 (.br 2 (Tr.sq [7, 8, 9, 10] .fin) (.br 7 (Tr.sq [2, 8, 9, 10] .fin) .stop)) (.br 7 (Tr.sq [1, 2, 8, 9, 10] .fin) .stop)) (.br 7 (.br 1 (.br 2 (Tr.sq [3, 8, 9, 10] .fin) (.br 3 (Tr.sq [2, 8, 9, 10] .fin) .stop)) (.br 3 (Tr.sq [1, 2, 8, 9, 10] .fin) .stop)) .stop))) .stop))) .stop))) (by kernel_rfl) ?_
 try simp only [go_sem]
 try simp only [go_sem]
 refine alt_i ?_ ?_
 ·try simp only [go_sem]
  try simp only [go_sem]
  refine alt_i ?_ ?_
  ·try simp only [go_sem]
   refine call_g ⟨[], [], [], [(1501, 32033)], [(1601, 32032), (1602, 32034)], true⟩ (by kernel_rfl) (i_newRewriter_ok _ _ _ hv2002) (by kernel_rfl) ?_
   try simp only [go_sem]
   try simp only [go_sem]
   refine alt_i ?_ ?_
   ·try simp only [go_sem]
    have hq_ := rep_some hv2003
    obtain ⟨hv2003a, hv2003b, hv2003c⟩ := hq_
    refine and_i (by refine ⟨?_, ?_, ?_⟩ <;> omega) ?_
    try simp only [go_sem]
    refine row_i (List.map i64D v2003) (by rw [← hv2003c]; simp only [List.map_replicate, go_sem, slD]) ?_
    try simp only [go_sem]
    refine seq_go ?_
    try simp only [go_sem]
    cases h
    refine ret_i (.forget 0 [] _ (by (first | rfl | (simp only [go_sem]; rfl))) (.done _)) [] [] ?_
    simp only [go_sem]
    all_goals try rfl
   ·try simp only [go_sem]
    try simp only [go_sem]
    refine alt_i ?_ ?_
    ·try simp only [go_sem]
     have hq_ := rep_some hv2003
     obtain ⟨hv2003a, hv2003b, hv2003c⟩ := hq_
     refine and_i (by refine ⟨?_, ?_, ?_⟩ <;> omega) ?_
     try simp only [go_sem]
     refine row_i (List.map i64D v2003) (by rw [← hv2003c]; simp only [List.map_replicate, go_sem, slD]) ?_
     try simp only [go_sem]
     refine seq_go ?_
     try simp only [go_sem]
     cases h
     refine ret_i (.forget 0 [] _ (by (first | rfl | (simp only [go_sem]; rfl))) (.done _)) [] [] ?_
     simp only [go_sem]
     all_goals try rfl
    ·try simp only [go_sem]
     try simp only [go_sem]
     refine alt_i ?_ ?_
     ·try simp only [go_sem]
      have hq_ := rep_some hv2003
      obtain ⟨hv2003a, hv2003b, hv2003c⟩ := hq_
      refine and_i (by refine ⟨?_, ?_, ?_⟩ <;> omega) ?_
      try simp only [go_sem]
      refine row_i (List.map i64D v2003) (by rw [← hv2003c]; simp only [List.map_replicate, go_sem, slD]) ?_
      try simp only [go_sem]
      refine seq_go ?_
      try simp only [go_sem]
      cases h
      refine ret_i (.forget 0 [] _ (by (first | rfl | (simp only [go_sem]; rfl))) (.done _)) [] [] ?_
      simp only [go_sem]
      all_goals try rfl
     ·try simp only [go_sem]
      have hq_ := rep_some hv2003
      obtain ⟨hv2003a, hv2003b, hv2003c⟩ := hq_
      refine and_i (by refine ⟨?_, ?_, ?_⟩ <;> omega) ?_
      try simp only [go_sem]
      refine row_i (List.map i64D v2003) (by rw [← hv2003c]; simp only [List.map_replicate, go_sem, slD]) ?_
      try simp only [go_sem]
      refine seq_go ?_
      try simp only [go_sem]
      cases h
      refine ret_i (.forget 0 [] _ (by (first | rfl | (simp only [go_sem]; rfl))) (.done _)) [] [] ?_
      simp only [go_sem]
      all_goals try rfl
  ·try simp only [go_sem]
   refine alt_i ?_ ?_
   ·try simp only [go_sem]
    have hq_ := rep_some hv2003
    obtain ⟨hv2003a, hv2003b, hv2003c⟩ := hq_
    refine and_i (by refine ⟨?_, ?_, ?_⟩ <;> omega) ?_
    try simp only [go_sem]
    refine row_i (List.map i64D v2003) (by rw [← hv2003c]; simp only [List.map_replicate, go_sem, slD]) ?_
    try simp only [go_sem]
    try simp only [go_sem]
    refine alt_i ?_ ?_
    ·try simp only [go_sem]
     refine call_g ⟨[], [], [], [(1501, 32033)], [(1601, 32032), (1602, 32034)], true⟩ (by kernel_rfl) (i_newRewriter_ok _ _ _ hv2002) (by kernel_rfl) ?_
     try simp only [go_sem]
     refine seq_go ?_
     try simp only [go_sem]
     cases h
     refine ret_i (.forget 0 [] _ (by (first | rfl | (simp only [go_sem]; rfl))) (.done _)) [] [] ?_
     simp only [go_sem]
     all_goals try rfl
    ·try simp only [go_sem]
     try simp only [go_sem]
     refine alt_i ?_ ?_
     ·try simp only [go_sem]
      refine call_g ⟨[], [], [], [(1501, 32033)], [(1601, 32032), (1602, 32034)], true⟩ (by kernel_rfl) (i_newRewriter_ok _ _ _ hv2002) (by kernel_rfl) ?_
      try simp only [go_sem]
      refine seq_go ?_
      try simp only [go_sem]
      cases h
      refine ret_i (.forget 0 [] _ (by (first | rfl | (simp only [go_sem]; rfl))) (.done _)) [] [] ?_
      simp only [go_sem]
      all_goals try rfl
     ·try simp only [go_sem]
      try simp only [go_sem]
      refine alt_i ?_ ?_
      ·try simp only [go_sem]
       refine call_g ⟨[], [], [], [(1501, 32033)], [(1601, 32032), (1602, 32034)], true⟩ (by kernel_rfl) (i_newRewriter_ok _ _ _ hv2002) (by kernel_rfl) ?_
       try simp only [go_sem]
       refine seq_go ?_
       try simp only [go_sem]
       cases h
       refine ret_i (.forget 0 [] _ (by (first | rfl | (simp only [go_sem]; rfl))) (.done _)) [] [] ?_
       simp only [go_sem]
       all_goals try rfl
      ·try simp only [go_sem]
       refine call_g ⟨[], [], [], [(1501, 32033)], [(1601, 32032), (1602, 32034)], true⟩ (by kernel_rfl) (i_newRewriter_ok _ _ _ hv2002) (by kernel_rfl) ?_
       try simp only [go_sem]
       refine seq_go ?_
       try simp only [go_sem]
       cases h
       refine ret_i (.forget 0 [] _ (by (first | rfl | (simp only [go_sem]; rfl))) (.done _)) [] [] ?_
       simp only [go_sem]
       all_goals try rfl
   ·try simp only [go_sem]
    try simp only [go_sem]
    refine alt_i ?_ ?_
    ·try simp only [go_sem]
     refine call_g ⟨[], [], [], [(1501, 32033)], [(1601, 32032), (1602, 32034)], true⟩ (by kernel_rfl) (i_newRewriter_ok _ _ _ hv2002) (by kernel_rfl) ?_
     try simp only [go_sem]
     try simp only [go_sem]
     refine alt_i ?_ ?_
     ·try simp only [go_sem]
      have hq_ := rep_some hv2003
      obtain ⟨hv2003a, hv2003b, hv2003c⟩ := hq_
      refine and_i (by refine ⟨?_, ?_, ?_⟩ <;> omega) ?_
      try simp only [go_sem]
      refine row_i (List.map i64D v2003) (by rw [← hv2003c]; simp only [List.map_replicate, go_sem, slD]) ?_
      try simp only [go_sem]
      refine seq_go ?_
      try simp only [go_sem]
      cases h
      refine ret_i (.forget 0 [] _ (by (first | rfl | (simp only [go_sem]; rfl))) (.done _)) [] [] ?_
      simp only [go_sem]
      all_goals try rfl
     ·try simp only [go_sem]
      try simp only [go_sem]
      refine alt_i ?_ ?_
      ·try simp only [go_sem]
       have hq_ := rep_some hv2003
       obtain ⟨hv2003a, hv2003b, hv2003c⟩ := hq_
       refine and_i (by refine ⟨?_, ?_, ?_⟩ <;> omega) ?_
       try simp only [go_sem]
       refine row_i (List.map i64D v2003) (by rw [← hv2003c]; simp only [List.map_replicate, go_sem, slD]) ?_
       try simp only [go_sem]
       refine seq_go ?_
       try simp only [go_sem]
       cases h
       refine ret_i (.forget 0 [] _ (by (first | rfl | (simp only [go_sem]; rfl))) (.done _)) [] [] ?_
       simp only [go_sem]
       all_goals try rfl
      ·try simp only [go_sem]
       have hq_ := rep_some hv2003
       obtain ⟨hv2003a, hv2003b, hv2003c⟩ := hq_
       refine and_i (by refine ⟨?_, ?_, ?_⟩ <;> omega) ?_
       try simp only [go_sem]
       refine row_i (List.map i64D v2003) (by rw [← hv2003c]; simp only [List.map_replicate, go_sem, slD]) ?_
       try simp only [go_sem]
       refine seq_go ?_
       try simp only [go_sem]
       cases h
       refine ret_i (.forget 0 [] _ (by (first | rfl | (simp only [go_sem]; rfl))) (.done _)) [] [] ?_
       simp only [go_sem]
       all_goals try rfl
    ·try simp only [go_sem]
     refine alt_i ?_ ?_
     ·try simp only [go_sem]
      have hq_ := rep_some hv2003
      obtain ⟨hv2003a, hv2003b, hv2003c⟩ := hq_
      refine and_i (by refine ⟨?_, ?_, ?_⟩ <;> omega) ?_
      try simp only [go_sem]
      refine row_i (List.map i64D v2003) (by rw [← hv2003c]; simp only [List.map_replicate, go_sem, slD]) ?_
      try simp only [go_sem]
      try simp only [go_sem]
      refine alt_i ?_ ?_
      ·try simp only [go_sem]
       refine call_g ⟨[], [], [], [(1501, 32033)], [(1601, 32032), (1602, 32034)], true⟩ (by kernel_rfl) (i_newRewriter_ok _ _ _ hv2002) (by kernel_rfl) ?_
       try simp only [go_sem]
       refine seq_go ?_
       try simp only [go_sem]
       cases h
       refine ret_i (.forget 0 [] _ (by (first | rfl | (simp only [go_sem]; rfl))) (.done _)) [] [] ?_
       simp only [go_sem]
       all_goals try rfl
      ·try simp only [go_sem]
       try simp only [go_sem]
       refine alt_i ?_ ?_
       ·try simp only [go_sem]
        refine call_g ⟨[], [], [], [(1501, 32033)], [(1601, 32032), (1602, 32034)], true⟩ (by kernel_rfl) (i_newRewriter_ok _ _ _ hv2002) (by kernel_rfl) ?_
        try simp only [go_sem]
        refine seq_go ?_
        try simp only [go_sem]
        cases h
        refine ret_i (.forget 0 [] _ (by (first | rfl | (simp only [go_sem]; rfl))) (.done _)) [] [] ?_
        simp only [go_sem]
        all_goals try rfl
       ·try simp only [go_sem]
        refine call_g ⟨[], [], [], [(1501, 32033)], [(1601, 32032), (1602, 32034)], true⟩ (by kernel_rfl) (i_newRewriter_ok _ _ _ hv2002) (by kernel_rfl) ?_
        try simp only [go_sem]
        refine seq_go ?_
        try simp only [go_sem]
        cases h
        refine ret_i (.forget 0 [] _ (by (first | rfl | (simp only [go_sem]; rfl))) (.done _)) [] [] ?_
        simp only [go_sem]
        all_goals try rfl
     ·try simp only [go_sem]
      try simp only [go_sem]
      refine alt_i ?_ ?_
      ·try simp only [go_sem]
       refine call_g ⟨[], [], [], [(1501, 32033)], [(1601, 32032), (1602, 32034)], true⟩ (by kernel_rfl) (i_newRewriter_ok _ _ _ hv2002) (by kernel_rfl) ?_
       try simp only [go_sem]
       try simp only [go_sem]
       refine alt_i ?_ ?_
       ·try simp only [go_sem]
        have hq_ := rep_some hv2003
        obtain ⟨hv2003a, hv2003b, hv2003c⟩ := hq_
        refine and_i (by refine ⟨?_, ?_, ?_⟩ <;> omega) ?_
        try simp only [go_sem]
        refine row_i (List.map i64D v2003) (by rw [← hv2003c]; simp only [List.map_replicate, go_sem, slD]) ?_
        try simp only [go_sem]
        refine seq_go ?_
        try simp only [go_sem]
        cases h
        refine ret_i (.forget 0 [] _ (by (first | rfl | (simp only [go_sem]; rfl))) (.done _)) [] [] ?_
        simp only [go_sem]
        all_goals try rfl
       ·try simp only [go_sem]
        have hq_ := rep_some hv2003
        obtain ⟨hv2003a, hv2003b, hv2003c⟩ := hq_
        refine and_i (by refine ⟨?_, ?_, ?_⟩ <;> omega) ?_
        try simp only [go_sem]
        refine row_i (List.map i64D v2003) (by rw [← hv2003c]; simp only [List.map_replicate, go_sem, slD]) ?_
        try simp only [go_sem]
        refine seq_go ?_
        try simp only [go_sem]
        cases h
        refine ret_i (.forget 0 [] _ (by (first | rfl | (simp only [go_sem]; rfl))) (.done _)) [] [] ?_
        simp only [go_sem]
        all_goals try rfl
      ·try simp only [go_sem]
       refine alt_i ?_ ?_
       ·try simp only [go_sem]
        have hq_ := rep_some hv2003
        obtain ⟨hv2003a, hv2003b, hv2003c⟩ := hq_
        refine and_i (by refine ⟨?_, ?_, ?_⟩ <;> omega) ?_
        try simp only [go_sem]
        refine row_i (List.map i64D v2003) (by rw [← hv2003c]; simp only [List.map_replicate, go_sem, slD]) ?_
        try simp only [go_sem]
        try simp only [go_sem]
        refine alt_i ?_ ?_
        ·try simp only [go_sem]
         refine call_g ⟨[], [], [], [(1501, 32033)], [(1601, 32032), (1602, 32034)], true⟩ (by kernel_rfl) (i_newRewriter_ok _ _ _ hv2002) (by kernel_rfl) ?_
         try simp only [go_sem]
         refine seq_go ?_
         try simp only [go_sem]
         cases h
         refine ret_i (.forget 0 [] _ (by (first | rfl | (simp only [go_sem]; rfl))) (.done _)) [] [] ?_
         simp only [go_sem]
         all_goals try rfl
        ·try simp only [go_sem]
         refine call_g ⟨[], [], [], [(1501, 32033)], [(1601, 32032), (1602, 32034)], true⟩ (by kernel_rfl) (i_newRewriter_ok _ _ _ hv2002) (by kernel_rfl) ?_
         try simp only [go_sem]
         refine seq_go ?_
         try simp only [go_sem]
         cases h
         refine ret_i (.forget 0 [] _ (by (first | rfl | (simp only [go_sem]; rfl))) (.done _)) [] [] ?_
         simp only [go_sem]
         all_goals try rfl
       ·try simp only [go_sem]
        try simp only [go_sem]
        refine alt_i ?_ ?_
        ·try simp only [go_sem]
         refine call_g ⟨[], [], [], [(1501, 32033)], [(1601, 32032), (1602, 32034)], true⟩ (by kernel_rfl) (i_newRewriter_ok _ _ _ hv2002) (by kernel_rfl) ?_
         try simp only [go_sem]
         have hq_ := rep_some hv2003
         obtain ⟨hv2003a, hv2003b, hv2003c⟩ := hq_
         refine and_i (by refine ⟨?_, ?_, ?_⟩ <;> omega) ?_
         try simp only [go_sem]
         refine row_i (List.map i64D v2003) (by rw [← hv2003c]; simp only [List.map_replicate, go_sem, slD]) ?_
         try simp only [go_sem]
         refine seq_go ?_
         try simp only [go_sem]
         cases h
         refine ret_i (.forget 0 [] _ (by (first | rfl | (simp only [go_sem]; rfl))) (.done _)) [] [] ?_
         simp only [go_sem]
         all_goals try rfl
        ·try simp only [go_sem]
         have hq_ := rep_some hv2003
         obtain ⟨hv2003a, hv2003b, hv2003c⟩ := hq_
         refine and_i (by refine ⟨?_, ?_, ?_⟩ <;> omega) ?_
         try simp only [go_sem]
         refine row_i (List.map i64D v2003) (by rw [← hv2003c]; simp only [List.map_replicate, go_sem, slD]) ?_
         try simp only [go_sem]
         refine call_g ⟨[], [], [], [(1501, 32033)], [(1601, 32032), (1602, 32034)], true⟩ (by kernel_rfl) (i_newRewriter_ok _ _ _ hv2002) (by kernel_rfl) ?_
         try simp only [go_sem]
         refine seq_go ?_
         try simp only [go_sem]
         cases h
         refine ret_i (.forget 0 [] _ (by (first | rfl | (simp only [go_sem]; rfl))) (.done _)) [] [] ?_
         simp only [go_sem]
         all_goals try rfl
 ·try simp only [go_sem]
  refine alt_i ?_ ?_
  ·try simp only [go_sem]
   have hq_ := rep_some hv2003
   obtain ⟨hv2003a, hv2003b, hv2003c⟩ := hq_
   refine and_i (by refine ⟨?_, ?_, ?_⟩ <;> omega) ?_
   try simp only [go_sem]
   refine row_i (List.map i64D v2003) (by rw [← hv2003c]; simp only [List.map_replicate, go_sem, slD]) ?_
   try simp only [go_sem]
   try simp only [go_sem]
   refine alt_i ?_ ?_
   ·try simp only [go_sem]
    try simp only [go_sem]
    refine alt_i ?_ ?_
    ·try simp only [go_sem]
     refine call_g ⟨[], [], [], [(1501, 32033)], [(1601, 32032), (1602, 32034)], true⟩ (by kernel_rfl) (i_newRewriter_ok _ _ _ hv2002) (by kernel_rfl) ?_
     try simp only [go_sem]
     refine seq_go ?_
     try simp only [go_sem]
     cases h
     refine ret_i (.forget 0 [] _ (by (first | rfl | (simp only [go_sem]; rfl))) (.done _)) [] [] ?_
     simp only [go_sem]
     all_goals try rfl
    ·try simp only [go_sem]
     try simp only [go_sem]
     refine alt_i ?_ ?_
     ·try simp only [go_sem]
      refine call_g ⟨[], [], [], [(1501, 32033)], [(1601, 32032), (1602, 32034)], true⟩ (by kernel_rfl) (i_newRewriter_ok _ _ _ hv2002) (by kernel_rfl) ?_
      try simp only [go_sem]
      refine seq_go ?_
      try simp only [go_sem]
      cases h
      refine ret_i (.forget 0 [] _ (by (first | rfl | (simp only [go_sem]; rfl))) (.done _)) [] [] ?_
      simp only [go_sem]
      all_goals try rfl
     ·try simp only [go_sem]
      try simp only [go_sem]
      refine alt_i ?_ ?_
      ·try simp only [go_sem]
       refine call_g ⟨[], [], [], [(1501, 32033)], [(1601, 32032), (1602, 32034)], true⟩ (by kernel_rfl) (i_newRewriter_ok _ _ _ hv2002) (by kernel_rfl) ?_
       try simp only [go_sem]
       refine seq_go ?_
       try simp only [go_sem]
       cases h
       refine ret_i (.forget 0 [] _ (by (first | rfl | (simp only [go_sem]; rfl))) (.done _)) [] [] ?_
       simp only [go_sem]
       all_goals try rfl
      ·try simp only [go_sem]
       refine call_g ⟨[], [], [], [(1501, 32033)], [(1601, 32032), (1602, 32034)], true⟩ (by kernel_rfl) (i_newRewriter_ok _ _ _ hv2002) (by kernel_rfl) ?_
       try simp only [go_sem]
       refine seq_go ?_
       try simp only [go_sem]
       cases h
       refine ret_i (.forget 0 [] _ (by (first | rfl | (simp only [go_sem]; rfl))) (.done _)) [] [] ?_
       simp only [go_sem]
       all_goals try rfl
   ·try simp only [go_sem]
    try simp only [go_sem]
    refine alt_i ?_ ?_
    ·try simp only [go_sem]
     try simp only [go_sem]
     refine alt_i ?_ ?_
     ·try simp only [go_sem]
      refine call_g ⟨[], [], [], [(1501, 32033)], [(1601, 32032), (1602, 32034)], true⟩ (by kernel_rfl) (i_newRewriter_ok _ _ _ hv2002) (by kernel_rfl) ?_
      try simp only [go_sem]
      refine seq_go ?_
      try simp only [go_sem]
      cases h
      refine ret_i (.forget 0 [] _ (by (first | rfl | (simp only [go_sem]; rfl))) (.done _)) [] [] ?_
      simp only [go_sem]
      all_goals try rfl
     ·try simp only [go_sem]
      try simp only [go_sem]
      refine alt_i ?_ ?_
      ·try simp only [go_sem]
       refine call_g ⟨[], [], [], [(1501, 32033)], [(1601, 32032), (1602, 32034)], true⟩ (by kernel_rfl) (i_newRewriter_ok _ _ _ hv2002) (by kernel_rfl) ?_
       try simp only [go_sem]
       refine seq_go ?_
       try simp only [go_sem]
       cases h
       refine ret_i (.forget 0 [] _ (by (first | rfl | (simp only [go_sem]; rfl))) (.done _)) [] [] ?_
       simp only [go_sem]
       all_goals try rfl
      ·try simp only [go_sem]
       refine call_g ⟨[], [], [], [(1501, 32033)], [(1601, 32032), (1602, 32034)], true⟩ (by kernel_rfl) (i_newRewriter_ok _ _ _ hv2002) (by kernel_rfl) ?_
       try simp only [go_sem]
       refine seq_go ?_
       try simp only [go_sem]
       cases h
       refine ret_i (.forget 0 [] _ (by (first | rfl | (simp only [go_sem]; rfl))) (.done _)) [] [] ?_
       simp only [go_sem]
       all_goals try rfl
    ·try simp only [go_sem]
     try simp only [go_sem]
     refine alt_i ?_ ?_
     ·try simp only [go_sem]
      try simp only [go_sem]
      refine alt_i ?_ ?_
      ·try simp only [go_sem]
       refine call_g ⟨[], [], [], [(1501, 32033)], [(1601, 32032), (1602, 32034)], true⟩ (by kernel_rfl) (i_newRewriter_ok _ _ _ hv2002) (by kernel_rfl) ?_
       try simp only [go_sem]
       refine seq_go ?_
       try simp only [go_sem]
       cases h
       refine ret_i (.forget 0 [] _ (by (first | rfl | (simp only [go_sem]; rfl))) (.done _)) [] [] ?_
       simp only [go_sem]
       all_goals try rfl
      ·try simp only [go_sem]
       refine call_g ⟨[], [], [], [(1501, 32033)], [(1601, 32032), (1602, 32034)], true⟩ (by kernel_rfl) (i_newRewriter_ok _ _ _ hv2002) (by kernel_rfl) ?_
       try simp only [go_sem]
       refine seq_go ?_
       try simp only [go_sem]
       cases h
       refine ret_i (.forget 0 [] _ (by (first | rfl | (simp only [go_sem]; rfl))) (.done _)) [] [] ?_
       simp only [go_sem]
       all_goals try rfl
     ·try simp only [go_sem]
      refine call_g ⟨[], [], [], [(1501, 32033)], [(1601, 32032), (1602, 32034)], true⟩ (by kernel_rfl) (i_newRewriter_ok _ _ _ hv2002) (by kernel_rfl) ?_
      try simp only [go_sem]
      refine seq_go ?_
      try simp only [go_sem]
      cases h
      refine ret_i (.forget 0 [] _ (by (first | rfl | (simp only [go_sem]; rfl))) (.done _)) [] [] ?_
      simp only [go_sem]
      all_goals try rfl
  ·try simp only [go_sem]
   try simp only [go_sem]
   refine alt_i ?_ ?_
   ·try simp only [go_sem]
    try simp only [go_sem]
    refine alt_i ?_ ?_
    ·try simp only [go_sem]
     refine call_g ⟨[], [], [], [(1501, 32033)], [(1601, 32032), (1602, 32034)], true⟩ (by kernel_rfl) (i_newRewriter_ok _ _ _ hv2002) (by kernel_rfl) ?_
     try simp only [go_sem]
     try simp only [go_sem]
     refine alt_i ?_ ?_
     ·try simp only [go_sem]
      have hq_ := rep_some hv2003
      obtain ⟨hv2003a, hv2003b, hv2003c⟩ := hq_
      refine and_i (by refine ⟨?_, ?_, ?_⟩ <;> omega) ?_
      try simp only [go_sem]
      refine row_i (List.map i64D v2003) (by rw [← hv2003c]; simp only [List.map_replicate, go_sem, slD]) ?_
      try simp only [go_sem]
      refine seq_go ?_
      try simp only [go_sem]
      cases h
      refine ret_i (.forget 0 [] _ (by (first | rfl | (simp only [go_sem]; rfl))) (.done _)) [] [] ?_
      simp only [go_sem]
      all_goals try rfl
     ·try simp only [go_sem]
      try simp only [go_sem]
      refine alt_i ?_ ?_
      ·try simp only [go_sem]
       have hq_ := rep_some hv2003
       obtain ⟨hv2003a, hv2003b, hv2003c⟩ := hq_
       refine and_i (by refine ⟨?_, ?_, ?_⟩ <;> omega) ?_
       try simp only [go_sem]
       refine row_i (List.map i64D v2003) (by rw [← hv2003c]; simp only [List.map_replicate, go_sem, slD]) ?_
       try simp only [go_sem]
       refine seq_go ?_
       try simp only [go_sem]
       cases h
       refine ret_i (.forget 0 [] _ (by (first | rfl | (simp only [go_sem]; rfl))) (.done _)) [] [] ?_
       simp only [go_sem]
       all_goals try rfl
      ·try simp only [go_sem]
       have hq_ := rep_some hv2003
       obtain ⟨hv2003a, hv2003b, hv2003c⟩ := hq_
       refine and_i (by refine ⟨?_, ?_, ?_⟩ <;> omega) ?_
       try simp only [go_sem]
       refine row_i (List.map i64D v2003) (by rw [← hv2003c]; simp only [List.map_replicate, go_sem, slD]) ?_
       try simp only [go_sem]
       refine seq_go ?_
       try simp only [go_sem]
       cases h
       refine ret_i (.forget 0 [] _ (by (first | rfl | (simp only [go_sem]; rfl))) (.done _)) [] [] ?_
       simp only [go_sem]
       all_goals try rfl
    ·try simp only [go_sem]
     refine alt_i ?_ ?_
     ·try simp only [go_sem]
      have hq_ := rep_some hv2003
      obtain ⟨hv2003a, hv2003b, hv2003c⟩ := hq_
      refine and_i (by refine ⟨?_, ?_, ?_⟩ <;> omega) ?_
      try simp only [go_sem]
      refine row_i (List.map i64D v2003) (by rw [← hv2003c]; simp only [List.map_replicate, go_sem, slD]) ?_
      try simp only [go_sem]
      try simp only [go_sem]
      refine alt_i ?_ ?_
      ·try simp only [go_sem]
       refine call_g ⟨[], [], [], [(1501, 32033)], [(1601, 32032), (1602, 32034)], true⟩ (by kernel_rfl) (i_newRewriter_ok _ _ _ hv2002) (by kernel_rfl) ?_
       try simp only [go_sem]
       refine seq_go ?_
       try simp only [go_sem]
       cases h
       refine ret_i (.forget 0 [] _ (by (first | rfl | (simp only [go_sem]; rfl))) (.done _)) [] [] ?_
       simp only [go_sem]
       all_goals try rfl
      ·try simp only [go_sem]
       try simp only [go_sem]
       refine alt_i ?_ ?_
       ·try simp only [go_sem]
        refine call_g ⟨[], [], [], [(1501, 32033)], [(1601, 32032), (1602, 32034)], true⟩ (by kernel_rfl) (i_newRewriter_ok _ _ _ hv2002) (by kernel_rfl) ?_
        try simp only [go_sem]
        refine seq_go ?_
        try simp only [go_sem]
        cases h
        refine ret_i (.forget 0 [] _ (by (first | rfl | (simp only [go_sem]; rfl))) (.done _)) [] [] ?_
        simp only [go_sem]
        all_goals try rfl
       ·try simp only [go_sem]
        refine call_g ⟨[], [], [], [(1501, 32033)], [(1601, 32032), (1602, 32034)], true⟩ (by kernel_rfl) (i_newRewriter_ok _ _ _ hv2002) (by kernel_rfl) ?_
        try simp only [go_sem]
        refine seq_go ?_
        try simp only [go_sem]
        cases h
        refine ret_i (.forget 0 [] _ (by (first | rfl | (simp only [go_sem]; rfl))) (.done _)) [] [] ?_
        simp only [go_sem]
        all_goals try rfl
     ·try simp only [go_sem]
      try simp only [go_sem]
      refine alt_i ?_ ?_
      ·try simp only [go_sem]
       refine call_g ⟨[], [], [], [(1501, 32033)], [(1601, 32032), (1602, 32034)], true⟩ (by kernel_rfl) (i_newRewriter_ok _ _ _ hv2002) (by kernel_rfl) ?_
       try simp only [go_sem]
       try simp only [go_sem]
       refine alt_i ?_ ?_
       ·try simp only [go_sem]
        have hq_ := rep_some hv2003
        obtain ⟨hv2003a, hv2003b, hv2003c⟩ := hq_
        refine and_i (by refine ⟨?_, ?_, ?_⟩ <;> omega) ?_
        try simp only [go_sem]
        refine row_i (List.map i64D v2003) (by rw [← hv2003c]; simp only [List.map_replicate, go_sem, slD]) ?_
        try simp only [go_sem]
        refine seq_go ?_
        try simp only [go_sem]
        cases h
        refine ret_i (.forget 0 [] _ (by (first | rfl | (simp only [go_sem]; rfl))) (.done _)) [] [] ?_
        simp only [go_sem]
        all_goals try rfl
       ·try simp only [go_sem]
        have hq_ := rep_some hv2003
        obtain ⟨hv2003a, hv2003b, hv2003c⟩ := hq_
        refine and_i (by refine ⟨?_, ?_, ?_⟩ <;> omega) ?_
        try simp only [go_sem]
        refine row_i (List.map i64D v2003) (by rw [← hv2003c]; simp only [List.map_replicate, go_sem, slD]) ?_
        try simp only [go_sem]
        refine seq_go ?_
        try simp only [go_sem]
        cases h
        refine ret_i (.forget 0 [] _ (by (first | rfl | (simp only [go_sem]; rfl))) (.done _)) [] [] ?_
        simp only [go_sem]
        all_goals try rfl
      ·try simp only [go_sem]
       refine alt_i ?_ ?_
       ·try simp only [go_sem]
        have hq_ := rep_some hv2003
        obtain ⟨hv2003a, hv2003b, hv2003c⟩ := hq_
        refine and_i (by refine ⟨?_, ?_, ?_⟩ <;> omega) ?_
        try simp only [go_sem]
        refine row_i (List.map i64D v2003) (by rw [← hv2003c]; simp only [List.map_replicate, go_sem, slD]) ?_
        try simp only [go_sem]
        try simp only [go_sem]
        refine alt_i ?_ ?_
        ·try simp only [go_sem]
         refine call_g ⟨[], [], [], [(1501, 32033)], [(1601, 32032), (1602, 32034)], true⟩ (by kernel_rfl) (i_newRewriter_ok _ _ _ hv2002) (by kernel_rfl) ?_
         try simp only [go_sem]
         refine seq_go ?_
         try simp only [go_sem]
         cases h
         refine ret_i (.forget 0 [] _ (by (first | rfl | (simp only [go_sem]; rfl))) (.done _)) [] [] ?_
         simp only [go_sem]
         all_goals try rfl
        ·try simp only [go_sem]
         refine call_g ⟨[], [], [], [(1501, 32033)], [(1601, 32032), (1602, 32034)], true⟩ (by kernel_rfl) (i_newRewriter_ok _ _ _ hv2002) (by kernel_rfl) ?_
         try simp only [go_sem]
         refine seq_go ?_
         try simp only [go_sem]
         cases h
         refine ret_i (.forget 0 [] _ (by (first | rfl | (simp only [go_sem]; rfl))) (.done _)) [] [] ?_
         simp only [go_sem]
         all_goals try rfl
       ·try simp only [go_sem]
        try simp only [go_sem]
        refine alt_i ?_ ?_
        ·try simp only [go_sem]
         refine call_g ⟨[], [], [], [(1501, 32033)], [(1601, 32032), (1602, 32034)], true⟩ (by kernel_rfl) (i_newRewriter_ok _ _ _ hv2002) (by kernel_rfl) ?_
         try simp only [go_sem]
         have hq_ := rep_some hv2003
         obtain ⟨hv2003a, hv2003b, hv2003c⟩ := hq_
         refine and_i (by refine ⟨?_, ?_, ?_⟩ <;> omega) ?_
         try simp only [go_sem]
         refine row_i (List.map i64D v2003) (by rw [← hv2003c]; simp only [List.map_replicate, go_sem, slD]) ?_
         try simp only [go_sem]
         refine seq_go ?_
         try simp only [go_sem]
         cases h
         refine ret_i (.forget 0 [] _ (by (first | rfl | (simp only [go_sem]; rfl))) (.done _)) [] [] ?_
         simp only [go_sem]
         all_goals try rfl
        ·try simp only [go_sem]
         have hq_ := rep_some hv2003
         obtain ⟨hv2003a, hv2003b, hv2003c⟩ := hq_
         refine and_i (by refine ⟨?_, ?_, ?_⟩ <;> omega) ?_
         try simp only [go_sem]
         refine row_i (List.map i64D v2003) (by rw [← hv2003c]; simp only [List.map_replicate, go_sem, slD]) ?_
         try simp only [go_sem]
         refine call_g ⟨[], [], [], [(1501, 32033)], [(1601, 32032), (1602, 32034)], true⟩ (by kernel_rfl) (i_newRewriter_ok _ _ _ hv2002) (by kernel_rfl) ?_
         try simp only [go_sem]
         refine seq_go ?_
         try simp only [go_sem]
         cases h
         refine ret_i (.forget 0 [] _ (by (first | rfl | (simp only [go_sem]; rfl))) (.done _)) [] [] ?_
         simp only [go_sem]
         all_goals try rfl
   ·try simp only [go_sem]
    refine alt_i ?_ ?_
    ·try simp only [go_sem]
     have hq_ := rep_some hv2003
     obtain ⟨hv2003a, hv2003b, hv2003c⟩ := hq_
     refine and_i (by refine ⟨?_, ?_, ?_⟩ <;> omega) ?_
     try simp only [go_sem]
     refine row_i (List.map i64D v2003) (by rw [← hv2003c]; simp only [List.map_replicate, go_sem, slD]) ?_
     try simp only [go_sem]
     try simp only [go_sem]
     refine alt_i ?_ ?_
     ·try simp only [go_sem]
      try simp only [go_sem]
      refine alt_i ?_ ?_
      ·try simp only [go_sem]
       refine call_g ⟨[], [], [], [(1501, 32033)], [(1601, 32032), (1602, 32034)], true⟩ (by kernel_rfl) (i_newRewriter_ok _ _ _ hv2002) (by kernel_rfl) ?_
       try simp only [go_sem]
       refine seq_go ?_
       try simp only [go_sem]
       cases h
       refine ret_i (.forget 0 [] _ (by (first | rfl | (simp only [go_sem]; rfl))) (.done _)) [] [] ?_
       simp only [go_sem]
       all_goals try rfl
      ·try simp only [go_sem]
       try simp only [go_sem]
       refine alt_i ?_ ?_
       ·try simp only [go_sem]
        refine call_g ⟨[], [], [], [(1501, 32033)], [(1601, 32032), (1602, 32034)], true⟩ (by kernel_rfl) (i_newRewriter_ok _ _ _ hv2002) (by kernel_rfl) ?_
        try simp only [go_sem]
        refine seq_go ?_
        try simp only [go_sem]
        cases h
        refine ret_i (.forget 0 [] _ (by (first | rfl | (simp only [go_sem]; rfl))) (.done _)) [] [] ?_
        simp only [go_sem]
        all_goals try rfl
       ·try simp only [go_sem]
        refine call_g ⟨[], [], [], [(1501, 32033)], [(1601, 32032), (1602, 32034)], true⟩ (by kernel_rfl) (i_newRewriter_ok _ _ _ hv2002) (by kernel_rfl) ?_
        try simp only [go_sem]
        refine seq_go ?_
        try simp only [go_sem]
        cases h
        refine ret_i (.forget 0 [] _ (by (first | rfl | (simp only [go_sem]; rfl))) (.done _)) [] [] ?_
        simp only [go_sem]
        all_goals try rfl
     ·try simp only [go_sem]
      try simp only [go_sem]
      refine alt_i ?_ ?_
      ·try simp only [go_sem]
       try simp only [go_sem]
       refine alt_i ?_ ?_
       ·try simp only [go_sem]
        refine call_g ⟨[], [], [], [(1501, 32033)], [(1601, 32032), (1602, 32034)], true⟩ (by kernel_rfl) (i_newRewriter_ok _ _ _ hv2002) (by kernel_rfl) ?_
        try simp only [go_sem]
        refine seq_go ?_
        try simp only [go_sem]
        cases h
        refine ret_i (.forget 0 [] _ (by (first | rfl | (simp only [go_sem]; rfl))) (.done _)) [] [] ?_
        simp only [go_sem]
        all_goals try rfl
       ·try simp only [go_sem]
        refine call_g ⟨[], [], [], [(1501, 32033)], [(1601, 32032), (1602, 32034)], true⟩ (by kernel_rfl) (i_newRewriter_ok _ _ _ hv2002) (by kernel_rfl) ?_
        try simp only [go_sem]
        refine seq_go ?_
        try simp only [go_sem]
        cases h
        refine ret_i (.forget 0 [] _ (by (first | rfl | (simp only [go_sem]; rfl))) (.done _)) [] [] ?_
        simp only [go_sem]
        all_goals try rfl
      ·try simp only [go_sem]
       refine call_g ⟨[], [], [], [(1501, 32033)], [(1601, 32032), (1602, 32034)], true⟩ (by kernel_rfl) (i_newRewriter_ok _ _ _ hv2002) (by kernel_rfl) ?_
       try simp only [go_sem]
       refine seq_go ?_
       try simp only [go_sem]
       cases h
       refine ret_i (.forget 0 [] _ (by (first | rfl | (simp only [go_sem]; rfl))) (.done _)) [] [] ?_
       simp only [go_sem]
       all_goals try rfl
    ·try simp only [go_sem]
     try simp only [go_sem]
     refine alt_i ?_ ?_
     ·try simp only [go_sem]
      try simp only [go_sem]
      refine alt_i ?_ ?_
      ·try simp only [go_sem]
       refine call_g ⟨[], [], [], [(1501, 32033)], [(1601, 32032), (1602, 32034)], true⟩ (by kernel_rfl) (i_newRewriter_ok _ _ _ hv2002) (by kernel_rfl) ?_
       try simp only [go_sem]
       try simp only [go_sem]
       refine alt_i ?_ ?_
       ·try simp only [go_sem]
        have hq_ := rep_some hv2003
        obtain ⟨hv2003a, hv2003b, hv2003c⟩ := hq_
        refine and_i (by refine ⟨?_, ?_, ?_⟩ <;> omega) ?_
        try simp only [go_sem]
        refine row_i (List.map i64D v2003) (by rw [← hv2003c]; simp only [List.map_replicate, go_sem, slD]) ?_
        try simp only [go_sem]
        refine seq_go ?_
        try simp only [go_sem]
        cases h
        refine ret_i (.forget 0 [] _ (by (first | rfl | (simp only [go_sem]; rfl))) (.done _)) [] [] ?_
        simp only [go_sem]
        all_goals try rfl
       ·try simp only [go_sem]
        have hq_ := rep_some hv2003
        obtain ⟨hv2003a, hv2003b, hv2003c⟩ := hq_
        refine and_i (by refine ⟨?_, ?_, ?_⟩ <;> omega) ?_
        try simp only [go_sem]
        refine row_i (List.map i64D v2003) (by rw [← hv2003c]; simp only [List.map_replicate, go_sem, slD]) ?_
        try simp only [go_sem]
        refine seq_go ?_
        try simp only [go_sem]
        cases h
        refine ret_i (.forget 0 [] _ (by (first | rfl | (simp only [go_sem]; rfl))) (.done _)) [] [] ?_
        simp only [go_sem]
        all_goals try rfl
      ·try simp only [go_sem]
       refine alt_i ?_ ?_
       ·try simp only [go_sem]
        have hq_ := rep_some hv2003
        obtain ⟨hv2003a, hv2003b, hv2003c⟩ := hq_
        refine and_i (by refine ⟨?_, ?_, ?_⟩ <;> omega) ?_
        try simp only [go_sem]
        refine row_i (List.map i64D v2003) (by rw [← hv2003c]; simp only [List.map_replicate, go_sem, slD]) ?_
        try simp only [go_sem]
        try simp only [go_sem]
        refine alt_i ?_ ?_
        ·try simp only [go_sem]
         refine call_g ⟨[], [], [], [(1501, 32033)], [(1601, 32032), (1602, 32034)], true⟩ (by kernel_rfl) (i_newRewriter_ok _ _ _ hv2002) (by kernel_rfl) ?_
         try simp only [go_sem]
         refine seq_go ?_
         try simp only [go_sem]
         cases h
         refine ret_i (.forget 0 [] _ (by (first | rfl | (simp only [go_sem]; rfl))) (.done _)) [] [] ?_
         simp only [go_sem]
         all_goals try rfl
        ·try simp only [go_sem]
         refine call_g ⟨[], [], [], [(1501, 32033)], [(1601, 32032), (1602, 32034)], true⟩ (by kernel_rfl) (i_newRewriter_ok _ _ _ hv2002) (by kernel_rfl) ?_
         try simp only [go_sem]
         refine seq_go ?_
         try simp only [go_sem]
         cases h
         refine ret_i (.forget 0 [] _ (by (first | rfl | (simp only [go_sem]; rfl))) (.done _)) [] [] ?_
         simp only [go_sem]
         all_goals try rfl
       ·try simp only [go_sem]
        try simp only [go_sem]
        refine alt_i ?_ ?_
        ·try simp only [go_sem]
         refine call_g ⟨[], [], [], [(1501, 32033)], [(1601, 32032), (1602, 32034)], true⟩ (by kernel_rfl) (i_newRewriter_ok _ _ _ hv2002) (by kernel_rfl) ?_
         try simp only [go_sem]
         have hq_ := rep_some hv2003
         obtain ⟨hv2003a, hv2003b, hv2003c⟩ := hq_
         refine and_i (by refine ⟨?_, ?_, ?_⟩ <;> omega) ?_
         try simp only [go_sem]
         refine row_i (List.map i64D v2003) (by rw [← hv2003c]; simp only [List.map_replicate, go_sem, slD]) ?_
         try simp only [go_sem]
         refine seq_go ?_
         try simp only [go_sem]
         cases h
         refine ret_i (.forget 0 [] _ (by (first | rfl | (simp only [go_sem]; rfl))) (.done _)) [] [] ?_
         simp only [go_sem]
         all_goals try rfl
        ·try simp only [go_sem]
         have hq_ := rep_some hv2003
         obtain ⟨hv2003a, hv2003b, hv2003c⟩ := hq_
         refine and_i (by refine ⟨?_, ?_, ?_⟩ <;> omega) ?_
         try simp only [go_sem]
         refine row_i (List.map i64D v2003) (by rw [← hv2003c]; simp only [List.map_replicate, go_sem, slD]) ?_
         try simp only [go_sem]
         refine call_g ⟨[], [], [], [(1501, 32033)], [(1601, 32032), (1602, 32034)], true⟩ (by kernel_rfl) (i_newRewriter_ok _ _ _ hv2002) (by kernel_rfl) ?_
         try simp only [go_sem]
         refine seq_go ?_
         try simp only [go_sem]
         cases h
         refine ret_i (.forget 0 [] _ (by (first | rfl | (simp only [go_sem]; rfl))) (.done _)) [] [] ?_
         simp only [go_sem]
         all_goals try rfl
     ·try simp only [go_sem]
      refine alt_i ?_ ?_
      ·try simp only [go_sem]
       have hq_ := rep_some hv2003
       obtain ⟨hv2003a, hv2003b, hv2003c⟩ := hq_
       refine and_i (by refine ⟨?_, ?_, ?_⟩ <;> omega) ?_
       try simp only [go_sem]
       refine row_i (List.map i64D v2003) (by rw [← hv2003c]; simp only [List.map_replicate, go_sem, slD]) ?_
       try simp only [go_sem]
       try simp only [go_sem]
       refine alt_i ?_ ?_
       ·try simp only [go_sem]
        try simp only [go_sem]
        refine alt_i ?_ ?_
        ·try simp only [go_sem]
         refine call_g ⟨[], [], [], [(1501, 32033)], [(1601, 32032), (1602, 32034)], true⟩ (by kernel_rfl) (i_newRewriter_ok _ _ _ hv2002) (by kernel_rfl) ?_
         try simp only [go_sem]
         refine seq_go ?_
         try simp only [go_sem]
         cases h
         refine ret_i (.forget 0 [] _ (by (first | rfl | (simp only [go_sem]; rfl))) (.done _)) [] [] ?_
         simp only [go_sem]
         all_goals try rfl
        ·try simp only [go_sem]
         refine call_g ⟨[], [], [], [(1501, 32033)], [(1601, 32032), (1602, 32034)], true⟩ (by kernel_rfl) (i_newRewriter_ok _ _ _ hv2002) (by kernel_rfl) ?_
         try simp only [go_sem]
         refine seq_go ?_
         try simp only [go_sem]
         cases h
         refine ret_i (.forget 0 [] _ (by (first | rfl | (simp only [go_sem]; rfl))) (.done _)) [] [] ?_
         simp only [go_sem]
         all_goals try rfl
       ·try simp only [go_sem]
        refine call_g ⟨[], [], [], [(1501, 32033)], [(1601, 32032), (1602, 32034)], true⟩ (by kernel_rfl) (i_newRewriter_ok _ _ _ hv2002) (by kernel_rfl) ?_
        try simp only [go_sem]
        refine seq_go ?_
        try simp only [go_sem]
        cases h
        refine ret_i (.forget 0 [] _ (by (first | rfl | (simp only [go_sem]; rfl))) (.done _)) [] [] ?_
        simp only [go_sem]
        all_goals try rfl
      ·try simp only [go_sem]
       try simp only [go_sem]
       refine alt_i ?_ ?_
       ·try simp only [go_sem]
        try simp only [go_sem]
        refine alt_i ?_ ?_
        ·try simp only [go_sem]
         refine call_g ⟨[], [], [], [(1501, 32033)], [(1601, 32032), (1602, 32034)], true⟩ (by kernel_rfl) (i_newRewriter_ok _ _ _ hv2002) (by kernel_rfl) ?_
         try simp only [go_sem]
         have hq_ := rep_some hv2003
         obtain ⟨hv2003a, hv2003b, hv2003c⟩ := hq_
         refine and_i (by refine ⟨?_, ?_, ?_⟩ <;> omega) ?_
         try simp only [go_sem]
         refine row_i (List.map i64D v2003) (by rw [← hv2003c]; simp only [List.map_replicate, go_sem, slD]) ?_
         try simp only [go_sem]
         refine seq_go ?_
         try simp only [go_sem]
         cases h
         refine ret_i (.forget 0 [] _ (by (first | rfl | (simp only [go_sem]; rfl))) (.done _)) [] [] ?_
         simp only [go_sem]
         all_goals try rfl
        ·try simp only [go_sem]
         have hq_ := rep_some hv2003
         obtain ⟨hv2003a, hv2003b, hv2003c⟩ := hq_
         refine and_i (by refine ⟨?_, ?_, ?_⟩ <;> omega) ?_
         try simp only [go_sem]
         refine row_i (List.map i64D v2003) (by rw [← hv2003c]; simp only [List.map_replicate, go_sem, slD]) ?_
         try simp only [go_sem]
         refine call_g ⟨[], [], [], [(1501, 32033)], [(1601, 32032), (1602, 32034)], true⟩ (by kernel_rfl) (i_newRewriter_ok _ _ _ hv2002) (by kernel_rfl) ?_
         try simp only [go_sem]
         refine seq_go ?_
         try simp only [go_sem]
         cases h
         refine ret_i (.forget 0 [] _ (by (first | rfl | (simp only [go_sem]; rfl))) (.done _)) [] [] ?_
         simp only [go_sem]
         all_goals try rfl
       ·try simp only [go_sem]
        have hq_ := rep_some hv2003
        obtain ⟨hv2003a, hv2003b, hv2003c⟩ := hq_
        refine and_i (by refine ⟨?_, ?_, ?_⟩ <;> omega) ?_
        try simp only [go_sem]
        refine row_i (List.map i64D v2003) (by rw [← hv2003c]; simp only [List.map_replicate, go_sem, slD]) ?_
        try simp only [go_sem]
        refine call_g ⟨[], [], [], [(1501, 32033)], [(1601, 32032), (1602, 32034)], true⟩ (by kernel_rfl) (i_newRewriter_ok _ _ _ hv2002) (by kernel_rfl) ?_
        try simp only [go_sem]
        refine seq_go ?_
        try simp only [go_sem]
        cases h
        refine ret_i (.forget 0 [] _ (by (first | rfl | (simp only [go_sem]; rfl))) (.done _)) [] [] ?_
        simp only [go_sem]
        all_goals try rfl
theorem i_reduction_j2_ok (a0 : List Net) (a1 : Net) (p1_0 : Bool) (r : Int) (h : i_reduction_j2 a0 a1 p1_0 = some r) : posG Tryz.prog Tryz.f65 [1, 0, 0, 1, 1, 1] (.tup [.any, .int .i64 r]) [] [] ⟨[(0, .ro (List.map Net.ds a0)), (5, .box 1000001500 0), (19, .bool p1_0)], [], [(1000001500, some [.ro (List.map Agent.ds a1.agents)])]⟩ := by
 unfold i_reduction_j2 at h
 refine posG_of rfl rfl ?_
 try simp only [go_sem]
 refine cond_i (fun hb5 => ?_) (fun hb5 => ?_)
 ·replace h := ifT (c := p1_0) hb5 h
  try simp only [go_sem]
  cases h
  refine ret_i (.forget 0 [0] _ (by (first | rfl | (simp only [go_sem]; rfl))) (.done _)) [] [] ?_
  simp only [go_sem]
  all_goals try rfl
 ·replace h := ifF (c := p1_0) hb5 h
  try simp only [go_sem]
  refine seq_go ?_
  try simp only [go_sem]
  replace h := bindE h
  obtain ⟨v6002, hv6002, h⟩ := h
  refine call_g ⟨[], [], [], [], [], true⟩ (by kernel_rfl) (i_newReducer_ok _ _ _ hv6002) (by kernel_rfl) ?_
  try simp only [go_sem]
  cases h
  refine ret_i (.forget 0 [0] _ (by (first | rfl | (simp only [go_sem]; rfl))) (.done _)) [] [] ?_
  simp only [go_sem]
  all_goals try rfl
theorem i_reduction_j1_ok (a0 : List Net) (a1 : Net) (a2 : List Int) (a3 : Int) (p0_0 : Bool) (r : Int) (h : i_reduction_j1 a0 a1 a2 a3 p0_0 = some r) : posG Tryz.prog Tryz.f65 [1, 0, 0, 1] (.tup [.any, .int .i64 r]) [] [] ⟨[(0, .ro (List.map Net.ds a0)), (2, .ro (List.map i64D a2)), (3, .int .i64 a3), (5, .box 1000000500 0), (10, .bool p0_0)], [], [(1000000500, some [.ro (List.map Agent.ds a1.agents)])]⟩ := by
 unfold i_reduction_j1 at h
 refine posG_of rfl rfl ?_
 try simp only [go_sem]
 refine cond_i (fun hb2 => ?_) (fun hb2 => ?_)
 ·replace h := ifT (c := p0_0) hb2 h
  try simp only [go_sem]
  cases h
  refine ret_i (.forget 0 [0] _ (by (first | rfl | (simp only [go_sem]; rfl))) (.done _)) [] [] ?_
  simp only [go_sem]
  all_goals try rfl
 ·replace h := ifF (c := p0_0) hb2 h
  try simp only [go_sem]
  replace h := bindE h
  obtain ⟨v4001, hv4001, h⟩ := h
  refine call_i (i_ValidSchedule_ok _ _ hv4001) ?_
  try simp only [go_sem]
  refine cond_i (fun hb3 => ?_) (fun hb3 => ?_)
  ·replace h := ifT (c := (!v4001)) hb3 h
   try simp only [go_sem]
   have hj := posG_to rfl rfl (i_reduction_j2_ok a0 a1 true _ h)
   refine seq_to hj (.one ⟨_, .done _, [], [(1000001500, 1000000500)], ?_⟩)
   clear hj
   try simp only [go_sem]
  ·replace h := ifF (c := (!v4001)) hb3 h
   try simp only [go_sem]
   refine cond_i (fun hb4 => ?_) (fun hb4 => ?_)
   ·replace h := ifT (c := (decide (a3 < 0))) hb4 h
    try simp only [go_sem]
    have hj := posG_to rfl rfl (i_reduction_j2_ok a0 a1 true _ h)
    refine seq_to hj (.one ⟨_, .done _, [], [(1000001500, 1000000500)], ?_⟩)
    clear hj
    try simp only [go_sem]
   ·replace h := ifF (c := (decide (a3 < 0))) hb4 h
    try simp only [go_sem]
    have hj := posG_to rfl rfl (i_reduction_j2_ok a0 a1 (decide (4000 < a3)) _ h)
    refine seq_to hj (.one ⟨_, .done _, [], [(1000001500, 1000000500)], ?_⟩)
    clear hj
    try simp only [go_sem]
theorem i_reduction_ok (a0 : List Net) (a1 : Net) (a2 : List Int) (a3 : Int) (r : Int) (h : i_reduction a0 a1 a2 a3 = some r) : AG Tryz.prog 65 [.ro (List.map Net.ds a0), .agg [.ro (List.map Agent.ds a1.agents)], .ro (List.map i64D a2), .int .i64 a3] [] [] (.tup [.any, .int .i64 r]) [] [] := by
 unfold i_reduction at h
 refine ag_fn mixed Tryz.func65 rfl rfl rfl (by kernel_rfl) (by kernel_rfl) ?_
 try simp only [go_sem]
 replace h := bindE h
 obtain ⟨v2001, hv2001, h⟩ := h
 refine call_i (i_ValidTemplates_ok _ _ hv2001) ?_
 try simp only [go_sem]
 refine cond_i (fun hb1 => ?_) (fun hb1 => ?_)
 ·replace h := ifT (c := (!v2001)) hb1 h
  try simp only [go_sem]
  have hj := posG_to rfl rfl (i_reduction_j1_ok a0 a1 a2 a3 true _ h)
  refine seq_to hj (.one ⟨_, .done _, [], [(1000000500, 1000)], ?_⟩)
  clear hj
  try simp only [go_sem]
 ·replace h := ifF (c := (!v2001)) hb1 h
  try simp only [go_sem]
  replace h := bindE h
  obtain ⟨v2005, hv2005, h⟩ := h
  refine call_i (i_ValidNet_ok _ _ hv2005) ?_
  try simp only [go_sem]
  have hj := posG_to rfl rfl (i_reduction_j1_ok a0 a1 a2 a3 (!v2005) _ h)
  refine seq_to hj (.one ⟨_, .done _, [], [(1000000500, 1000)], ?_⟩)
  clear hj
  try simp only [go_sem]
theorem i_AddJob_j2_ok (a0 : Queue) (a1 : List Net) (a2 : Net) (a3 : List Int) (a4 : Int) (a5 : Int) (p1_0 : Bool) (r : Queue × Int × Int) (h : i_AddJob_j2 a0 a1 a2 a3 a4 a5 p1_0 = some r) : posF Tryz.prog Tryz.f20 [1, 1, 1, 0, 0, 1, 1, 1] (.tup [.agg (Queue.rv r.1), .int .i64 r.2.1, .int .i64 r.2.2]) ⟨[(1, .ro (List.map Net.ds a1)), (3, .ro (List.map i64D a3)), (4, .int .i64 a4), (5, .int .i64 a5), (6, .box 1000001500 0), (8, .box 1000001501 0), (12, .box 1000001502 0), (42, .bool p1_0)], [], [(1000001500, some [.int .i64 a0.quantum, .int .i64 a0.nextId, .int .i64 a0.turn, .ro (List.map Job.ds a0.jobs)]), (1000001501, some [.ro (List.map Agent.ds a2.agents)]), (1000001502, some [.int .i64 0, .int .i64 0, .int .i64 0, .nils])]⟩ := by
 unfold i_AddJob_j2 at h
 refine posF_of rfl rfl ?_
 try simp only [go_sem]
 refine cond_i (fun hb6 => ?_) (fun hb6 => ?_)
 ·replace h := ifT (c := p1_0) hb6 h
  try simp only [go_sem]
  cases h
  simp only [go_sem]
 ·replace h := ifF (c := p1_0) hb6 h
  try simp only [go_sem]
  refine seq_go ?_
  try simp only [go_sem]
  replace h := bindE h
  obtain ⟨v11001, hv11001, h⟩ := h
  refine call_i (i_copyQueue_ok _ _ hv11001) ?_
  try simp only [go_sem]
  refine draw_i [false, false, false, false, false, false, false, false, false, false, false, false, false, true, true, true] (Tr.sq [13, 14, 15] .fin) (by kernel_rfl) ?_
  try simp only [go_sem]
  replace h := bindE h
  obtain ⟨v12006, hv12006, h⟩ := h
  have hq_ := rep_some hv12006
  obtain ⟨hv12006a, hv12006b, hv12006c⟩ := hq_
  refine and_i (by refine ⟨?_, ?_, ?_⟩ <;> omega) ?_
  try simp only [go_sem]
  refine row_i (List.map i64D v12006) (by rw [← hv12006c]; simp only [List.map_replicate, go_sem, slD]) ?_
  try simp only [go_sem]
  replace h := bindE h
  obtain ⟨v12011, hv12011, h⟩ := h
  refine call_i (i_copyJob_ok _ _ hv12011) ?_
  try simp only [go_sem]
  replace h := bindE h
  obtain ⟨v12013, hv12013, h⟩ := h
  have hq_ := app_some hv12013
  obtain ⟨hv12013a, hv12013b⟩ := hq_
  refine and_i (by refine ⟨?_, ?_⟩ <;> (try simp only [List.length_map, List.length_append, List.length_cons, List.length_nil] at *) <;> (try unfold maxLen) <;> omega) ?_
  try simp only [go_sem]
  refine row_i (List.map Job.ds v12013) (by rw [← hv12013b]; simp only [List.map_append, List.map_cons, List.map_nil, List.nil_append, List.append_nil, go_sem, Job.ds_eq]) ?_
  try simp only [go_sem]
  refine seq_go ?_
  try simp only [go_sem]
  refine draw_i [true, false, true, true, true, true] (.br 0 (.br 2 (Tr.sq [3, 4, 5] .fin) (.br 3 (Tr.sq [2, 4, 5] .fin) .stop)) (.br 2 (Tr.sq [0, 3, 4, 5] .fin) .stop)) (by kernel_rfl) ?_
  try simp only [go_sem]
  try simp only [go_sem]
  refine alt_i ?_ ?_
  ·try simp only [go_sem]
   try simp only [go_sem]
   refine alt_i ?_ ?_
   ·try simp only [go_sem]
    refine seq_go ?_
    try simp only [go_sem]
    cases h
    simp only [go_sem]
   ·try simp only [go_sem]
    refine seq_go ?_
    try simp only [go_sem]
    cases h
    simp only [go_sem]
  ·try simp only [go_sem]
   refine seq_go ?_
   try simp only [go_sem]
   cases h
   simp only [go_sem]
theorem i_AddJob_j1_ok (a0 : Queue) (a1 : List Net) (a2 : Net) (a3 : List Int) (a4 : Int) (a5 : Int) (p0_0 : Bool) (r : Queue × Int × Int) (h : i_AddJob_j1 a0 a1 a2 a3 a4 a5 p0_0 = some r) : posF Tryz.prog Tryz.f20 [1, 1, 1, 0, 0, 1] (.tup [.agg (Queue.rv r.1), .int .i64 r.2.1, .int .i64 r.2.2]) ⟨[(1, .ro (List.map Net.ds a1)), (3, .ro (List.map i64D a3)), (4, .int .i64 a4), (5, .int .i64 a5), (6, .box 1000000500 0), (8, .box 1000000501 0), (12, .box 1000000502 0), (34, .bool p0_0)], [], [(1000000500, some [.int .i64 a0.quantum, .int .i64 a0.nextId, .int .i64 a0.turn, .ro (List.map Job.ds a0.jobs)]), (1000000501, some [.ro (List.map Agent.ds a2.agents)]), (1000000502, some [.int .i64 0, .int .i64 0, .int .i64 0, .nils])]⟩ := by
 unfold i_AddJob_j1 at h
 refine posF_of rfl rfl ?_
 try simp only [go_sem]
 refine cond_i (fun hb4 => ?_) (fun hb4 => ?_)
 ·replace h := ifT (c := p0_0) hb4 h
  try simp only [go_sem]
  cases h
  simp only [go_sem]
 ·replace h := ifF (c := p0_0) hb4 h
  try simp only [go_sem]
  refine cond_i (fun hb5 => ?_) (fun hb5 => ?_)
  ·replace h := ifT (c := (decide (((List.length a0.jobs : Nat) : Int) = 6))) hb5 h
   try simp only [go_sem]
   have hj := posF_to rfl rfl (i_AddJob_j2_ok a0 a1 a2 a3 a4 a5 true _ h)
   refine seq_to hj (.one ⟨_, .done _, [], [(1000001500, 1000000500), (1000001501, 1000000501), (1000001502, 1000000502)], ?_⟩)
   clear hj
   try simp only [go_sem]
  ·replace h := ifF (c := (decide (((List.length a0.jobs : Nat) : Int) = 6))) hb5 h
   try simp only [go_sem]
   have hj := posF_to rfl rfl (i_AddJob_j2_ok a0 a1 a2 a3 a4 a5 (decide (a0.nextId = 1000000000)) _ h)
   refine seq_to hj (.one ⟨_, .done _, [], [(1000001500, 1000000500), (1000001501, 1000000501), (1000001502, 1000000502)], ?_⟩)
   clear hj
   try simp only [go_sem]
theorem i_AddJob_ok (a0 : Queue) (a1 : List Net) (a2 : Net) (a3 : List Int) (a4 : Int) (a5 : Int) (r : Queue × Int × Int) (h : i_AddJob a0 a1 a2 a3 a4 a5 = some r) : AC Tryz.prog 20 [.agg (Queue.avs a0), .ro (List.map Net.ds a1), .agg (Net.avs a2), .ro (List.map i64D a3), .int .i64 a4, .int .i64 a5] (.tup [.agg (Queue.rv r.1), .int .i64 r.2.1, .int .i64 r.2.2]) := by
 unfold i_AddJob at h
 refine ac_fn mixed Tryz.func20 rfl rfl rfl (by kernel_rfl) (by kernel_rfl) ?_
 try simp only [go_sem]
 replace h := bindE h
 obtain ⟨v2001, hv2001, h⟩ := h
 refine call_i (i_ValidQueue_ok _ _ hv2001) ?_
 try simp only [go_sem]
 refine cond_i (fun hb1 => ?_) (fun hb1 => ?_)
 ·replace h := ifT (c := (!v2001)) hb1 h
  try simp only [go_sem]
  cases h
  simp only [go_sem]
 ·replace h := ifF (c := (!v2001)) hb1 h
  try simp only [go_sem]
  refine seq_go ?_
  try simp only [go_sem]
  replace h := bindE h
  obtain ⟨v4004, hv4004, h⟩ := h
  refine call_g ⟨[], [], [], [], [], true⟩ (by kernel_rfl) (i_reduction_ok _ _ _ _ _ hv4004) (by kernel_rfl) ?_
  try simp only [go_sem]
  refine cond_i (fun hb2 => ?_) (fun hb2 => ?_)
  ·replace h := ifT (c := (!decide (v4004 = 0))) hb2 h
   try simp only [go_sem]
   cases h
   simp only [go_sem]
  ·replace h := ifF (c := (!decide (v4004 = 0))) hb2 h
   try simp only [go_sem]
   refine seq_go ?_
   try simp only [go_sem]
   refine cond_i (fun hb3 => ?_) (fun hb3 => ?_)
   ·replace h := ifT (c := (decide (a5 < 1))) hb3 h
    try simp only [go_sem]
    have hj := posF_to rfl rfl (i_AddJob_j1_ok a0 a1 a2 a3 a4 a5 true _ h)
    refine seq_to hj (.one ⟨_, .done _, [], [(1000000500, 1000), (1000000501, 1001), (1000000502, 1002)], ?_⟩)
    clear hj
    try simp only [go_sem]
   ·replace h := ifF (c := (decide (a5 < 1))) hb3 h
    try simp only [go_sem]
    have hj := posF_to rfl rfl (i_AddJob_j1_ok a0 a1 a2 a3 a4 a5 (decide (4 < a5)) _ h)
    refine seq_to hj (.one ⟨_, .done _, [], [(1000000500, 1000), (1000000501, 1001), (1000000502, 1002)], ?_⟩)
    clear hj
    try simp only [go_sem]
theorem l_FnExactAddJob_j3_ok (v19006 : Queue × Int × Int) (v38002 : Int × (List Job)) (p2_0 : Bool) (r : Bool) (h : l_FnExactAddJob_j3 v19006 v38002 p2_0 = some r) : posF Tryz.prog Tryz.f3 [1, 1, 1, 1, 1, 1, 1, 1, 1, 1, 1, 1, 1, 1, 1, 1, 1, 1, 1, 1, 1, 1, 1, 1, 1, 1, 1, 1, 1, 1, 1, 1, 1, 0, 1] (.bool r) ⟨[(21, .box 1000002500 0), (25, .int .i64 v38002.1), (185, .bool p2_0)], [(1000002000, some ⟨List.map Job.ds v38002.2, some 10, 0⟩)], [(1000002500, some [.int .i64 v19006.1.quantum, .int .i64 v19006.1.nextId, .int .i64 v19006.1.turn, .own 1000002000])]⟩ := by
 unfold l_FnExactAddJob_j3 at h
 refine posF_of rfl rfl ?_
 try simp only [go_sem]
 refine cond_i (fun hb20 => ?_) (fun hb20 => ?_)
 ·replace h := ifT (c := p2_0) hb20 h
  try simp only [go_sem]
  cases h
  simp only [go_sem]
 ·replace h := ifF (c := p2_0) hb20 h
  try simp only [go_sem]
  refine seq_go ?_
  try simp only [go_sem]
  replace h := bindE h
  obtain ⟨v49002, hv49002, h⟩ := h
  refine call_i (l_heldQueue_ok _ _ _ hv49002) ?_
  try simp only [go_sem]
  refine cond_i (fun hb21 => ?_) (fun hb21 => ?_)
  ·replace h := ifT (c := (decide (v49002 < 0))) hb21 h
   try simp only [go_sem]
   cases h
   simp only [go_sem]
  ·replace h := ifF (c := (decide (v49002 < 0))) hb21 h
   try simp only [go_sem]
   refine seq_go ?_
   try simp only [go_sem]
   refine cond_i (fun hb22 => ?_) (fun hb22 => ?_)
   ·replace h := ifT (c := (!decide (v49002 = v38002.1))) hb22 h
    try simp only [go_sem]
    cases h
    simp only [go_sem]
   ·replace h := ifF (c := (!decide (v49002 = v38002.1))) hb22 h
    try simp only [go_sem]
    refine seq_go ?_
    try simp only [go_sem]
    cases h
    simp only [go_sem]
theorem l_FnExactAddJob_j2_ok (a0 : Queue) (a1 : List Net) (a2 : Net) (a3 : List Int) (a4 : Int) (a5 : Int) (v14010 : Queue × Int × Int) (v19006 : Queue × Int × Int) (p1_0 : Bool) (r : Bool) (h : l_FnExactAddJob_j2 a0 a1 a2 a3 a4 a5 v14010 v19006 p1_0 = some r) : posF Tryz.prog Tryz.f3 [1, 1, 1, 1, 1, 1, 1, 1, 1, 1, 1, 1, 1, 1, 1, 1, 1, 1, 1, 1, 1, 1, 1, 1, 1, 0, 1] (.bool r) ⟨[(1, .ro (List.map Net.ds a1)), (3, .ro (List.map i64D a3)), (4, .int .i64 a4), (5, .int .i64 a5), (6, .box 1000001500 0), (8, .box 1000001501 0), (14, .box 1000001502 0), (15, .int .i64 v14010.2.1), (16, .int .i64 v14010.2.2), (21, .box 1000001503 0), (145, .bool p1_0)], [(1000001000, some ⟨List.map Job.ds v14010.1.jobs, some 10, 0⟩), (1000001001, some ⟨List.map Job.ds v19006.1.jobs, some 10, 0⟩)], [(1000001500, some [.int .i64 a0.quantum, .int .i64 a0.nextId, .int .i64 a0.turn, .ro (List.map Job.ds a0.jobs)]), (1000001501, some [.ro (List.map Agent.ds a2.agents)]), (1000001502, some [.int .i64 v14010.1.quantum, .int .i64 v14010.1.nextId, .int .i64 v14010.1.turn, .own 1000001000]), (1000001503, some [.int .i64 v19006.1.quantum, .int .i64 v19006.1.nextId, .int .i64 v19006.1.turn, .own 1000001001])]⟩ := by
 unfold l_FnExactAddJob_j2 at h
 refine posF_of rfl rfl ?_
 try simp only [go_sem]
 refine cond_i (fun hb15 => ?_) (fun hb15 => ?_)
 ·replace h := ifT (c := p1_0) hb15 h
  try simp only [go_sem]
  cases h
  simp only [go_sem]
 ·replace h := ifF (c := p1_0) hb15 h
  try simp only [go_sem]
  refine seq_go ?_
  try simp only [go_sem]
  replace h := bindE h
  obtain ⟨v38002, hv38002, h⟩ := h
  refine call_g ⟨[], [(1, 1000001001)], [], [], [], true⟩ (by kernel_rfl) (l_markQueue_ok _ _ (some 10) _ hv38002) (by kernel_rfl) ?_
  try simp only [go_sem]
  replace h := bindE h
  obtain ⟨v40002, hv40002, h⟩ := h
  refine call_i (l_heldQueue_ok _ _ _ hv40002) ?_
  try simp only [go_sem]
  refine cond_i (fun hb16 => ?_) (fun hb16 => ?_)
  ·replace h := ifT (c := (decide (v40002 < 0))) hb16 h
   try simp only [go_sem]
   cases h
   simp only [go_sem]
  ·replace h := ifF (c := (decide (v40002 < 0))) hb16 h
   try simp only [go_sem]
   refine seq_go ?_
   try simp only [go_sem]
   refine cond_i (fun hb17 => ?_) (fun hb17 => ?_)
   ·replace h := ifT (c := (!decide (v40002 = v38002.1))) hb17 h
    try simp only [go_sem]
    cases h
    simp only [go_sem]
   ·replace h := ifF (c := (!decide (v40002 = v38002.1))) hb17 h
    try simp only [go_sem]
    refine seq_go ?_
    try simp only [go_sem]
    refine draw_i [false, false, false, false, false, false, false, false, false, false, false, false, false, false, false, false, true, true, true] (Tr.sq [16, 17, 18] .fin) (by kernel_rfl) ?_
    try simp only [go_sem]
    replace h := bindE h
    obtain ⟨v45001, hv45001, h⟩ := h
    refine call_i (l_toQueue_ok _ _ hv45001) ?_
    try simp only [go_sem]
    replace h := bindE h
    obtain ⟨v45003, hv45003, h⟩ := h
    refine call_i (l_toNetS_ok _ _ hv45003) ?_
    try simp only [go_sem]
    replace h := bindE h
    obtain ⟨v45005, hv45005, h⟩ := h
    refine call_i (l_toNet_ok _ _ hv45005) ?_
    try simp only [go_sem]
    replace h := bindE h
    obtain ⟨v45007, hv45007, h⟩ := h
    refine call_i (l_toInt64S_ok _ _ hv45007) ?_
    try simp only [go_sem]
    replace h := bindE h
    obtain ⟨v45010, hv45010, h⟩ := h
    refine call_i (i_AddJob_ok _ _ _ _ _ _ _ hv45010) ?_
    try simp only [go_sem]
    refine seq_go ?_
    try simp only [go_sem]
    replace h := bindE h
    obtain ⟨v46002, hv46002, h⟩ := h
    refine call_i (l_eqQueue_ok _ _ _ hv46002) ?_
    try simp only [go_sem]
    refine cond_i (fun hb18 => ?_) (fun hb18 => ?_)
    ·replace h := ifT (c := (!v46002)) hb18 h
     try simp only [go_sem]
     have hj := posF_to rfl rfl (l_FnExactAddJob_j3_ok v19006 v38002 true _ h)
     refine seq_to hj (.one ⟨_, .done _, [(1000002000, 1000001001)], [(1000002500, 1000001503)], ?_⟩)
     clear hj
     try simp only [go_sem]
    ·replace h := ifF (c := (!v46002)) hb18 h
     try simp only [go_sem]
     refine cond_i (fun hb19 => ?_) (fun hb19 => ?_)
     ·replace h := ifT (c := (!decide (v45010.2.1 = v14010.2.1))) hb19 h
      try simp only [go_sem]
      have hj := posF_to rfl rfl (l_FnExactAddJob_j3_ok v19006 v38002 true _ h)
      refine seq_to hj (.one ⟨_, .done _, [(1000002000, 1000001001)], [(1000002500, 1000001503)], ?_⟩)
      clear hj
      try simp only [go_sem]
     ·replace h := ifF (c := (!decide (v45010.2.1 = v14010.2.1))) hb19 h
      try simp only [go_sem]
      have hj := posF_to rfl rfl (l_FnExactAddJob_j3_ok v19006 v38002 (!decide (v45010.2.2 = v14010.2.2)) _ h)
      refine seq_to hj (.one ⟨_, .done _, [(1000002000, 1000001001)], [(1000002500, 1000001503)], ?_⟩)
      clear hj
      try simp only [go_sem]
theorem l_FnExactAddJob_j1_ok (a0 : Queue) (a1 : List Net) (a2 : Net) (a3 : List Int) (a4 : Int) (a5 : Int) (v14010 : Queue × Int × Int) (v15001 : Queue) (v16001 : (List Net)) (v17001 : Net) (v18001 : (List Int)) (v19006 : Queue × Int × Int) (p0_0 : Bool) (r : Bool) (h : l_FnExactAddJob_j1 a0 a1 a2 a3 a4 a5 v14010 v15001 v16001 v17001 v18001 v19006 p0_0 = some r) : posF Tryz.prog Tryz.f3 [1, 1, 1, 1, 1, 1, 1, 1, 1, 1, 1, 1, 1, 1, 1, 0, 1] (.bool r) ⟨[(1, .ro (List.map Net.ds a1)), (3, .ro (List.map i64D a3)), (4, .int .i64 a4), (5, .int .i64 a5), (6, .box 1000000500 0), (8, .box 1000000501 0), (14, .box 1000000502 0), (15, .int .i64 v14010.2.1), (16, .int .i64 v14010.2.2), (17, .box 1000000503 0), (18, .own 1000000002), (19, .box 1000000504 0), (20, .own 1000000004), (21, .box 1000000505 0), (22, .int .i64 v19006.2.1), (23, .int .i64 v19006.2.2), (95, .bool p0_0)], [(1000000000, some ⟨List.map Job.ds v14010.1.jobs, some 10, 0⟩), (1000000001, some ⟨List.map Job.ds v15001.jobs, some 10, 0⟩), (1000000002, some ⟨List.map Net.ds v16001, some 1, 0⟩), (1000000003, some ⟨List.map Agent.ds v17001.agents, some 5, 0⟩), (1000000004, some ⟨List.map i64D v18001, some 1, 0⟩), (1000000005, some ⟨List.map Job.ds v19006.1.jobs, some 10, 0⟩)], [(1000000500, some [.int .i64 a0.quantum, .int .i64 a0.nextId, .int .i64 a0.turn, .ro (List.map Job.ds a0.jobs)]), (1000000501, some [.ro (List.map Agent.ds a2.agents)]), (1000000502, some [.int .i64 v14010.1.quantum, .int .i64 v14010.1.nextId, .int .i64 v14010.1.turn, .own 1000000000]), (1000000503, some [.int .i64 v15001.quantum, .int .i64 v15001.nextId, .int .i64 v15001.turn, .own 1000000001]), (1000000504, some [.own 1000000003]), (1000000505, some [.int .i64 v19006.1.quantum, .int .i64 v19006.1.nextId, .int .i64 v19006.1.turn, .own 1000000005])]⟩ := by
 unfold l_FnExactAddJob_j1 at h
 refine posF_of rfl rfl ?_
 try simp only [go_sem]
 refine cond_i (fun hb7 => ?_) (fun hb7 => ?_)
 ·replace h := ifT (c := p0_0) hb7 h
  try simp only [go_sem]
  cases h
  simp only [go_sem]
 ·replace h := ifF (c := p0_0) hb7 h
  try simp only [go_sem]
  refine seq_go ?_
  try simp only [go_sem]
  refine draw_i [] .fin (by kernel_rfl) ?_
  try simp only [go_sem]
  replace h := bindE h
  obtain ⟨v22002, hv22002, h⟩ := h
  refine call_i (l_toQueue_ok _ _ hv22002) ?_
  try simp only [go_sem]
  replace h := bindE h
  obtain ⟨v22003, hv22003, h⟩ := h
  refine call_i (l_eqQueue_ok _ _ _ hv22003) ?_
  try simp only [go_sem]
  refine seq_go ?_
  try simp only [go_sem]
  refine cond_i (fun hb8 => ?_) (fun hb8 => ?_)
  ·replace h := ifT (c := (!v22003)) hb8 h
   try simp only [go_sem]
   cases h
   simp only [go_sem]
  ·replace h := ifF (c := (!v22003)) hb8 h
   try simp only [go_sem]
   refine seq_go ?_
   try simp only [go_sem]
   replace h := bindE h
   obtain ⟨v24002, hv24002, h⟩ := h
   refine call_i (l_toNetS_ok _ _ hv24002) ?_
   try simp only [go_sem]
   replace h := bindE h
   obtain ⟨v24003, hv24003, h⟩ := h
   refine call_i (l_eqNetS_ok _ _ _ hv24003) ?_
   try simp only [go_sem]
   refine cond_i (fun hb9 => ?_) (fun hb9 => ?_)
   ·replace h := ifT (c := (!v24003)) hb9 h
    try simp only [go_sem]
    cases h
    simp only [go_sem]
   ·replace h := ifF (c := (!v24003)) hb9 h
    try simp only [go_sem]
    refine seq_go ?_
    try simp only [go_sem]
    refine draw_i [] .fin (by kernel_rfl) ?_
    try simp only [go_sem]
    replace h := bindE h
    obtain ⟨v26002, hv26002, h⟩ := h
    refine call_i (l_toNet_ok _ _ hv26002) ?_
    try simp only [go_sem]
    replace h := bindE h
    obtain ⟨v26003, hv26003, h⟩ := h
    refine call_i (l_eqNet_ok _ _ _ hv26003) ?_
    try simp only [go_sem]
    refine seq_go ?_
    try simp only [go_sem]
    refine cond_i (fun hb10 => ?_) (fun hb10 => ?_)
    ·replace h := ifT (c := (!v26003)) hb10 h
     try simp only [go_sem]
     cases h
     simp only [go_sem]
    ·replace h := ifF (c := (!v26003)) hb10 h
     try simp only [go_sem]
     refine seq_go ?_
     try simp only [go_sem]
     replace h := bindE h
     obtain ⟨v28002, hv28002, h⟩ := h
     refine call_i (l_toInt64S_ok _ _ hv28002) ?_
     try simp only [go_sem]
     replace h := bindE h
     obtain ⟨v28003, hv28003, h⟩ := h
     refine call_i (l_eqInt64S_ok _ _ _ hv28003) ?_
     try simp only [go_sem]
     refine cond_i (fun hb11 => ?_) (fun hb11 => ?_)
     ·replace h := ifT (c := (!v28003)) hb11 h
      try simp only [go_sem]
      cases h
      simp only [go_sem]
     ·replace h := ifF (c := (!v28003)) hb11 h
      try simp only [go_sem]
      refine seq_go ?_
      try simp only [go_sem]
      replace h := bindE h
      obtain ⟨v31002, hv31002, h⟩ := h
      refine call_g ⟨[], [(1, 1000000001)], [], [], [], true⟩ (by kernel_rfl) (l_markQueue_ok _ _ (some 10) _ hv31002) (by kernel_rfl) ?_
      try simp only [go_sem]
      replace h := bindE h
      obtain ⟨v32002, hv32002, h⟩ := h
      refine call_g ⟨[], [(1, 1000000002)], [], [], [], true⟩ (by kernel_rfl) (l_markNetS_ok _ _ (some 1) _ hv32002) (by kernel_rfl) ?_
      try simp only [go_sem]
      replace h := bindE h
      obtain ⟨v33002, hv33002, h⟩ := h
      refine call_g ⟨[], [(1, 1000000003)], [], [], [], true⟩ (by kernel_rfl) (l_markNet_ok _ _ (some 5) _ hv33002) (by kernel_rfl) ?_
      try simp only [go_sem]
      replace h := bindE h
      obtain ⟨v34002, hv34002, h⟩ := h
      refine call_g ⟨[], [(1, 1000000004)], [], [], [], true⟩ (by kernel_rfl) (l_markInt64S_ok _ _ (some 1) _ hv34002) (by kernel_rfl) ?_
      try simp only [go_sem]
      refine cond_i (fun hb12 => ?_) (fun hb12 => ?_)
      ·replace h := ifT (c := (decide (v34002.1 < 0))) hb12 h
       try simp only [go_sem]
       have hj := posF_to rfl rfl (l_FnExactAddJob_j2_ok a0 a1 a2 a3 a4 a5 v14010 v19006 true _ h)
       refine seq_to hj (.one ⟨_, .done _, [(1000001000, 1000000000), (1000001001, 1000000005)], [(1000001500, 1000000500), (1000001501, 1000000501), (1000001502, 1000000502), (1000001503, 1000000505)], ?_⟩)
       clear hj
       try simp only [go_sem]
      ·replace h := ifF (c := (decide (v34002.1 < 0))) hb12 h
       try simp only [go_sem]
       replace h := bindE h
       obtain ⟨v35005, hv35005, h⟩ := h
       refine call_i (l_eqQueue_ok _ _ _ hv35005) ?_
       try simp only [go_sem]
       refine cond_i (fun hb13 => ?_) (fun hb13 => ?_)
       ·replace h := ifT (c := (!v35005)) hb13 h
        try simp only [go_sem]
        have hj := posF_to rfl rfl (l_FnExactAddJob_j2_ok a0 a1 a2 a3 a4 a5 v14010 v19006 true _ h)
        refine seq_to hj (.one ⟨_, .done _, [(1000001000, 1000000000), (1000001001, 1000000005)], [(1000001500, 1000000500), (1000001501, 1000000501), (1000001502, 1000000502), (1000001503, 1000000505)], ?_⟩)
        clear hj
        try simp only [go_sem]
       ·replace h := ifF (c := (!v35005)) hb13 h
        try simp only [go_sem]
        refine cond_i (fun hb14 => ?_) (fun hb14 => ?_)
        ·replace h := ifT (c := (!decide (v19006.2.1 = v14010.2.1))) hb14 h
         try simp only [go_sem]
         have hj := posF_to rfl rfl (l_FnExactAddJob_j2_ok a0 a1 a2 a3 a4 a5 v14010 v19006 true _ h)
         refine seq_to hj (.one ⟨_, .done _, [(1000001000, 1000000000), (1000001001, 1000000005)], [(1000001500, 1000000500), (1000001501, 1000000501), (1000001502, 1000000502), (1000001503, 1000000505)], ?_⟩)
         clear hj
         try simp only [go_sem]
        ·replace h := ifF (c := (!decide (v19006.2.1 = v14010.2.1))) hb14 h
         try simp only [go_sem]
         have hj := posF_to rfl rfl (l_FnExactAddJob_j2_ok a0 a1 a2 a3 a4 a5 v14010 v19006 (!decide (v19006.2.2 = v14010.2.2)) _ h)
         refine seq_to hj (.one ⟨_, .done _, [(1000001000, 1000000000), (1000001001, 1000000005)], [(1000001500, 1000000500), (1000001501, 1000000501), (1000001502, 1000000502), (1000001503, 1000000505)], ?_⟩)
         clear hj
         try simp only [go_sem]
theorem l_FnExactAddJob_ok (a0 : Queue) (a1 : List Net) (a2 : Net) (a3 : List Int) (a4 : Int) (a5 : Int) (r : Bool) (h : l_FnExactAddJob a0 a1 a2 a3 a4 a5 = some r) : AC Tryz.prog 3 [.agg (Queue.avs a0), .ro (List.map Net.ds a1), .agg (Net.avs a2), .ro (List.map i64D a3), .int .i64 a4, .int .i64 a5] (.bool r) := by
 unfold l_FnExactAddJob at h
 refine ac_fn mixed Tryz.func3 rfl rfl rfl (by kernel_rfl) (by kernel_rfl) ?_
 try simp only [go_sem]
 refine cond_i (fun hb1 => ?_) (fun hb1 => ?_)
 ·replace h := ifT (c := (decide (1048576 < ((List.length a3 : Nat) : Int)))) hb1 h
  try simp only [go_sem]
  cases h
  simp only [go_sem]
 ·replace h := ifF (c := (decide (1048576 < ((List.length a3 : Nat) : Int)))) hb1 h
  try simp only [go_sem]
  refine seq_go ?_
  try simp only [go_sem]
  replace h := bindE h
  obtain ⟨v5002, hv5002, h⟩ := h
  refine call_i (l_szQueue_ok _ _ _ hv5002) ?_
  try simp only [go_sem]
  refine cond_i (fun hb2 => ?_) (fun hb2 => ?_)
  ·replace h := ifT (c := (decide (v5002 < 0))) hb2 h
   try simp only [go_sem]
   cases h
   simp only [go_sem]
  ·replace h := ifF (c := (decide (v5002 < 0))) hb2 h
   try simp only [go_sem]
   refine seq_go ?_
   try simp only [go_sem]
   replace h := bindE h
   obtain ⟨v8002, hv8002, h⟩ := h
   refine call_i (l_szNetS_ok _ _ _ hv8002) ?_
   try simp only [go_sem]
   refine cond_i (fun hb3 => ?_) (fun hb3 => ?_)
   ·replace h := ifT (c := (decide (v8002 < 0))) hb3 h
    try simp only [go_sem]
    cases h
    simp only [go_sem]
   ·replace h := ifF (c := (decide (v8002 < 0))) hb3 h
    try simp only [go_sem]
    refine seq_go ?_
    try simp only [go_sem]
    replace h := bindE h
    obtain ⟨v11002, hv11002, h⟩ := h
    refine call_i (l_szNet_ok _ _ _ hv11002) ?_
    try simp only [go_sem]
    refine cond_i (fun hb4 => ?_) (fun hb4 => ?_)
    ·replace h := ifT (c := (decide (v11002 < 0))) hb4 h
     try simp only [go_sem]
     cases h
     simp only [go_sem]
    ·replace h := ifF (c := (decide (v11002 < 0))) hb4 h
     try simp only [go_sem]
     refine seq_go ?_
     try simp only [go_sem]
     refine draw_i [false, false, false, false, false, false, false, false, false, false, false, false, false, false, false, false, true, true, true] (Tr.sq [16, 17, 18] .fin) (by kernel_rfl) ?_
     try simp only [go_sem]
     replace h := bindE h
     obtain ⟨v14001, hv14001, h⟩ := h
     refine call_i (l_toQueue_ok _ _ hv14001) ?_
     try simp only [go_sem]
     replace h := bindE h
     obtain ⟨v14003, hv14003, h⟩ := h
     refine call_i (l_toNetS_ok _ _ hv14003) ?_
     try simp only [go_sem]
     replace h := bindE h
     obtain ⟨v14005, hv14005, h⟩ := h
     refine call_i (l_toNet_ok _ _ hv14005) ?_
     try simp only [go_sem]
     replace h := bindE h
     obtain ⟨v14007, hv14007, h⟩ := h
     refine call_i (l_toInt64S_ok _ _ hv14007) ?_
     try simp only [go_sem]
     replace h := bindE h
     obtain ⟨v14010, hv14010, h⟩ := h
     refine call_i (s_AddJob_ok _ _ _ _ _ _ _ hv14010) ?_
     try simp only [go_sem]
     refine seq_go ?_
     try simp only [go_sem]
     replace h := bindE h
     obtain ⟨v15001, hv15001, h⟩ := h
     refine call_i (l_toQueue_ok _ _ hv15001) ?_
     try simp only [go_sem]
     replace h := bindE h
     obtain ⟨v16001, hv16001, h⟩ := h
     refine call_i (l_toNetS_ok _ _ hv16001) ?_
     try simp only [go_sem]
     replace h := bindE h
     obtain ⟨v17001, hv17001, h⟩ := h
     refine call_i (l_toNet_ok _ _ hv17001) ?_
     try simp only [go_sem]
     replace h := bindE h
     obtain ⟨v18001, hv18001, h⟩ := h
     refine call_i (l_toInt64S_ok _ _ hv18001) ?_
     try simp only [go_sem]
     replace h := bindE h
     obtain ⟨v19006, hv19006, h⟩ := h
     refine call_i (i_AddJob_ok _ _ _ _ _ _ _ hv19006) ?_
     try simp only [go_sem]
     replace h := bindE h
     obtain ⟨v20002, hv20002, h⟩ := h
     refine call_i (l_eqQueue_ok _ _ _ hv20002) ?_
     try simp only [go_sem]
     refine cond_i (fun hb5 => ?_) (fun hb5 => ?_)
     ·replace h := ifT (c := (!v20002)) hb5 h
      try simp only [go_sem]
      have hj := posF_to rfl rfl (l_FnExactAddJob_j1_ok a0 a1 a2 a3 a4 a5 v14010 v15001 v16001 v17001 v18001 v19006 true _ h)
      refine seq_to hj (.one ⟨_, .done _, [(1000000000, 224160), (1000000001, 240016), (1000000002, 256016), (1000000003, 272016), (1000000004, 288016), (1000000005, 304096)], [(1000000500, 1000), (1000000501, 1001), (1000000502, 14015), (1000000503, 15002), (1000000504, 17002), (1000000505, 19011)], ?_⟩)
      clear hj
      try simp only [go_sem]
     ·replace h := ifF (c := (!v20002)) hb5 h
      try simp only [go_sem]
      refine cond_i (fun hb6 => ?_) (fun hb6 => ?_)
      ·replace h := ifT (c := (!decide (v19006.2.1 = v14010.2.1))) hb6 h
       try simp only [go_sem]
       have hj := posF_to rfl rfl (l_FnExactAddJob_j1_ok a0 a1 a2 a3 a4 a5 v14010 v15001 v16001 v17001 v18001 v19006 true _ h)
       refine seq_to hj (.one ⟨_, .done _, [(1000000000, 224160), (1000000001, 240016), (1000000002, 256016), (1000000003, 272016), (1000000004, 288016), (1000000005, 304096)], [(1000000500, 1000), (1000000501, 1001), (1000000502, 14015), (1000000503, 15002), (1000000504, 17002), (1000000505, 19011)], ?_⟩)
       clear hj
       try simp only [go_sem]
      ·replace h := ifF (c := (!decide (v19006.2.1 = v14010.2.1))) hb6 h
       try simp only [go_sem]
       have hj := posF_to rfl rfl (l_FnExactAddJob_j1_ok a0 a1 a2 a3 a4 a5 v14010 v15001 v16001 v17001 v18001 v19006 (!decide (v19006.2.2 = v14010.2.2)) _ h)
       refine seq_to hj (.one ⟨_, .done _, [(1000000000, 224160), (1000000001, 240016), (1000000002, 256016), (1000000003, 272016), (1000000004, 288016), (1000000005, 304096)], [(1000000500, 1000), (1000000501, 1001), (1000000502, 14015), (1000000503, 15002), (1000000504, 17002), (1000000505, 19011)], ?_⟩)
       clear hj
       try simp only [go_sem]
end Go.Proofs.YtckcfdggbbabfaaGreat.Ab
