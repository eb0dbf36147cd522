/-
 The functions do what their models say. Printed by wip/ab/gen.py.
-/
import Derived.Test.YtckcfdggbbabfaaGreatModR
import Derived.Test.YtckcfdggbbabfaaGreatTi2
import Derived.Test.YtckcfdggbbabfaaGreatDelW
import Derived.Test.YtckcfdggbbabfaaGreatWlkJ
namespace Go.Proofs.YtckcfdggbbabfaaGreat.Ab
set_option linter.unusedVariables false
set_option linter.unusedSimpArgs false
set_option maxRecDepth 20000
set_option maxHeartbeats 4000000
open Go.RowKit
theorem s_RemoveJob_j3_ok (v7000 : Queue) (v8011 : List Job) (p2_0 : Int) (r : Queue × Int) (h : s_RemoveJob_j3 v7000 v8011 p2_0 = some r) : posG Tryz.prog Tryz.f53 [1, 1, 1, 1, 1, 1, 1] (.tup [.agg [.int .i64 r.1.quantum, .int .i64 r.1.nextId, .int .i64 r.1.turn, .ro (List.map Job.ds r.1.jobs)], .int .i64 r.2]) [] [] ⟨[(4, .box 1000002500 0), (8, .box 1000002501 0)], [(1000002000, some ⟨List.map Job.dz v8011, some 10, 0, true⟩)], [(1000002500, some [.int .i64 0, .int .i64 0, .int .i64 0, .nils]), (1000002501, some [.int .i64 v7000.quantum, .int .i64 v7000.nextId, .int .i64 p2_0, .own 1000002000])]⟩ := by
 unfold s_RemoveJob_j3 at h
 refine posG_of rfl rfl ?_
 try simp only [go_sem]
 refine cond_i (fun hb5 => ?_) (fun hb5 => ?_)
 ·replace h := ifT (c := (decide (((List.length v8011 : Nat) : Int) ≤ p2_0))) hb5 h
  try simp only [go_sem]
  refine seq_go ?_
  try simp only [go_sem]
  cases h
  refine ret_i (.frzT 1000002000 [(0, [0, 3])] [(1000002500, 3), (1000002501, 3)] _ _ _ (by (first | rfl | (simp only [go_sem]; rfl))) (by decide) (by (first | rfl | (simp only [go_sem]; rfl))) (by (first | rfl | (simp only [go_sem]; rfl))) (.done _)) [] [] ?_
  simp only [go_sem]
  all_goals try rfl
 ·replace h := ifF (c := (decide (((List.length v8011 : Nat) : Int) ≤ p2_0))) hb5 h
  try simp only [go_sem]
  refine seq_go ?_
  try simp only [go_sem]
  cases h
  refine ret_i (.frzT 1000002000 [(0, [0, 3])] [(1000002500, 3), (1000002501, 3)] _ _ _ (by (first | rfl | (simp only [go_sem]; rfl))) (by decide) (by (first | rfl | (simp only [go_sem]; rfl))) (by (first | rfl | (simp only [go_sem]; rfl))) (.done _)) [] [] ?_
  simp only [go_sem]
  all_goals try rfl
theorem s_RemoveJob_j2_ok (a0 : Queue) (v2001 : Int × Int) (p1_0 : Int) (r : Queue × Int) (h : s_RemoveJob_j2 a0 v2001 p1_0 = some r) : posG Tryz.prog Tryz.f53 [1, 1, 1] (.tup [.agg [.int .i64 r.1.quantum, .int .i64 r.1.nextId, .int .i64 r.1.turn, .ro (List.map Job.ds r.1.jobs)], .int .i64 r.2]) [] [] ⟨[(2, .box 1000001500 0), (4, .box 1000001501 0), (6, .int .i64 v2001.1), (7, .int .i64 p1_0)], [(1000001000, some ⟨List.map Job.ds a0.jobs, some 10, 0, false⟩)], [(1000001500, some [.int .i64 a0.quantum, .int .i64 a0.nextId, .int .i64 a0.turn, .own 1000001000]), (1000001501, some [.int .i64 0, .int .i64 0, .int .i64 0, .nils])]⟩ := by
 unfold s_RemoveJob_j2 at h
 refine posG_of rfl rfl ?_
 try simp only [go_sem]
 refine cond_i (fun hb2 => ?_) (fun hb2 => ?_)
 ·replace h := ifT (c := (!decide (p1_0 = 0))) hb2 h
  try simp only [go_sem]
  cases h
  refine ret_i (.frzN [(0, [0, 3])] [] _ _ (by (first | rfl | (simp only [go_sem]; rfl))) (by (first | rfl | (simp only [go_sem]; rfl))) (.done _)) [] [] ?_
  simp only [go_sem]
  all_goals try rfl
 ·replace h := ifF (c := (!decide (p1_0 = 0))) hb2 h
  try simp only [go_sem]
  refine seq_go ?_
  try simp only [go_sem]
  replace h := bindE h
  obtain ⟨v7000, hv7000, h⟩ := h
  refine call_i (s_l34Own_ok _ _ hv7000) ?_
  try simp only [go_sem]
  refine seq_fz (.frzT 112000 [] [(7001, 3)] _ _ _ (by (first | rfl | (simp only [go_sem]; rfl))) (by decide) (by (first | rfl | (simp only [go_sem]; rfl))) (by (first | rfl | (simp only [go_sem]; rfl))) (.done _)) ?_
  try simp only [go_sem]
  all_goals try rfl
  refine draw_i [false, false, false, false, false, false, false, false, false, false, false, true, true, true] (Tr.sq [11, 12, 13] .fin) (by kernel_rfl) ?_
  try simp only [go_sem]
  replace h := bindE h
  obtain ⟨v8004, hv8004, h⟩ := h
  refine and_i (len_rows_of (by intro x; exact (Job.ds_len _)) _) ?_
  try simp only [go_sem]
  refine opt_i (cut_map hv8004) ?_
  try simp only [go_sem]
  replace h := bindE h
  obtain ⟨v8005, hv8005, h⟩ := h
  have hq_ := app_some hv8005
  obtain ⟨hv8005a, hv8005b⟩ := hq_
  refine and_i (by rfl) ?_
  try simp only [go_sem]
  refine zed_i true ?_
  try simp only [go_sem]
  refine and_i (ng_rows_of (by intro x; exact ⟨(Job.ds_len _), Job.dz_ng x⟩) _) ?_
  try simp only [go_sem]
  refine row_i (List.map Job.dz v8004) (fzR_map Job.dz_fz _) ?_
  try simp only [go_sem]
  refine and_i (by refine ⟨?_, ?_⟩ <;> (try simp only [List.length_map, List.length_append, List.length_cons, List.length_nil] at *) <;> (try unfold maxLen) <;> omega) ?_
  try simp only [go_sem]
  refine row_i (List.map Job.dz v8005) (by rw [← hv8005b]; simp only [List.nil_append]) ?_
  try simp only [go_sem]
  replace h := bindE h
  obtain ⟨v8010, hv8010, h⟩ := h
  refine and_i (len_rows_of (by intro x; exact (Job.ds_len _)) _) ?_
  try simp only [go_sem]
  refine opt_i (cut_map hv8010) ?_
  try simp only [go_sem]
  replace h := bindE h
  obtain ⟨v8011, hv8011, h⟩ := h
  have hq_ := app_some hv8011
  obtain ⟨hv8011a, hv8011b⟩ := hq_
  refine zed_i true ?_
  try simp only [go_sem]
  refine and_i (ng_rows_of (by intro x; exact ⟨(Job.ds_len _), Job.dz_ng x⟩) _) ?_
  try simp only [go_sem]
  refine row_i (List.map Job.dz v8010) (fzR_map Job.dz_fz _) ?_
  try simp only [go_sem]
  refine and_i (by refine ⟨?_, ?_⟩ <;> (try simp only [List.length_map, List.length_append, List.length_cons, List.length_nil] at *) <;> (try unfold maxLen) <;> omega) ?_
  try simp only [go_sem]
  refine row_i (List.map Job.dz v8011) (by rw [← hv8011b]; simp only [List.map_append, List.map_cons, List.map_nil, List.nil_append, List.append_nil, go_sem, Job.ds_eq, Job.dz_eq]) ?_
  try simp only [go_sem]
  refine seq_go ?_
  try simp only [go_sem]
  refine cond_i (fun hb3 => ?_) (fun hb3 => ?_)
  ·replace h := ifT (c := (decide (v2001.1 < v7000.turn))) hb3 h
   try simp only [go_sem]
   have hj := posG_to rfl rfl (s_RemoveJob_j3_ok v7000 v8011 (IntKind.i64.wrap (v7000.turn - 1)) _ h)
   refine seq_to hj (.one ⟨_, .done _, [(1000002000, 128176)], [(1000002500, 1000001501), (1000002501, 7001)], ?_⟩)
   clear hj
   try simp only [go_sem]
  ·replace h := ifF (c := (decide (v2001.1 < v7000.turn))) hb3 h
   try simp only [go_sem]
   have hj := posG_to rfl rfl (s_RemoveJob_j3_ok v7000 v8011 v7000.turn _ h)
   refine seq_to hj (.one ⟨_, .done _, [(1000002000, 128176)], [(1000002500, 1000001501), (1000002501, 7001)], ?_⟩)
   clear hj
   try simp only [go_sem]
theorem s_RemoveJob_j1_ok (a0 : Queue) (v2001 : Int × Int) (p0_0 : Bool) (r : Queue × Int) (h : s_RemoveJob_j1 a0 v2001 p0_0 = some r) : posG Tryz.prog Tryz.f53 [1, 1, 0, 1] (.tup [.agg [.int .i64 r.1.quantum, .int .i64 r.1.nextId, .int .i64 r.1.turn, .ro (List.map Job.ds r.1.jobs)], .int .i64 r.2]) [] [] ⟨[(2, .box 1000000500 0), (4, .box 1000000501 0), (6, .int .i64 v2001.1), (7, .int .i64 v2001.2), (24, .bool p0_0)], [(1000000000, some ⟨List.map Job.ds a0.jobs, some 10, 0, false⟩)], [(1000000500, some [.int .i64 a0.quantum, .int .i64 a0.nextId, .int .i64 a0.turn, .own 1000000000]), (1000000501, some [.int .i64 0, .int .i64 0, .int .i64 0, .nils])]⟩ := by
 unfold s_RemoveJob_j1 at h
 refine posG_of rfl rfl ?_
 try simp only [go_sem]
 refine cond_i (fun hb4 => ?_) (fun hb4 => ?_)
 ·replace h := ifT (c := p0_0) hb4 h
  try simp only [go_sem]
  have hj := posG_to rfl rfl (s_RemoveJob_j2_ok a0 v2001 5 _ h)
  refine seq_to hj (.one ⟨_, .done _, [(1000001000, 1000000000)], [(1000001500, 1000000500), (1000001501, 1000000501)], ?_⟩)
  clear hj
  try simp only [go_sem]
 ·replace h := ifF (c := p0_0) hb4 h
  try simp only [go_sem]
  have hj := posG_to rfl rfl (s_RemoveJob_j2_ok a0 v2001 v2001.2 _ h)
  refine seq_to hj (.one ⟨_, .done _, [(1000001000, 1000000000)], [(1000001500, 1000000500), (1000001501, 1000000501)], ?_⟩)
  clear hj
  try simp only [go_sem]
theorem s_RemoveJob_ok (a0 : Queue) (a1 : Int) (r : Queue × Int) (h : s_RemoveJob a0 a1 = some r) : AG Tryz.prog 53 [.agg [.int .i64 a0.quantum, .int .i64 a0.nextId, .int .i64 a0.turn, .own 1001], .int .i64 a1] [(1001, ⟨List.map Job.ds a0.jobs, some 10, 0, false⟩)] [] (.tup [.agg [.int .i64 r.1.quantum, .int .i64 r.1.nextId, .int .i64 r.1.turn, .ro (List.map Job.ds r.1.jobs)], .int .i64 r.2]) [] [] := by
 unfold s_RemoveJob at h
 refine ag_fn mixed Tryz.func53 rfl rfl rfl (by kernel_rfl) (by kernel_rfl) ?_
 try simp only [go_sem]
 replace h := bindE h
 obtain ⟨v2001, hv2001, h⟩ := h
 refine call_i (s_l34Asked_ok _ _ _ hv2001) ?_
 try simp only [go_sem]
 refine seq_go ?_
 try simp only [go_sem]
 refine cond_i (fun hb1 => ?_) (fun hb1 => ?_)
 ·replace h := ifT (c := (decide (v2001.2 = 0))) hb1 h
  try simp only [go_sem]
  replace h := bindE h
  obtain ⟨v3006, hv3006, h⟩ := h
  refine idx_m hv3006 (Job.ds_len _) ?_
  try simp only [go_sem]
  refine opt_i (row_m hv3006) ?_
  try simp only [go_sem]
  have hj := posG_to rfl rfl (s_RemoveJob_j1_ok a0 v2001 (decide (v3006.state = 1)) _ h)
  refine seq_to hj (.one ⟨_, .done _, [(1000000000, 1001)], [(1000000500, 1000), (1000000501, 1001)], ?_⟩)
  clear hj
  try simp only [go_sem]
 ·replace h := ifF (c := (decide (v2001.2 = 0))) hb1 h
  try simp only [go_sem]
  have hj := posG_to rfl rfl (s_RemoveJob_j1_ok a0 v2001 false _ h)
  refine seq_to hj (.one ⟨_, .done _, [(1000000000, 1001)], [(1000000500, 1000), (1000000501, 1001)], ?_⟩)
  clear hj
  try simp only [go_sem]
theorem i_RemoveJob_j2_ok (v7001 : Queue) (v8005 : (List Job)) (p1_0 : Int) (r : Queue × Int) (h : i_RemoveJob_j2 v7001 v8005 p1_0 = some r) : posF Tryz.prog Tryz.f54 [1, 1, 1, 1, 1, 1, 1] (.tup [.agg (Queue.rv r.1), .int .i64 r.2]) ⟨[(4, .box 1000001500 0), (8, .box 1000001501 0)], [(1000001000, some ⟨List.map Job.ds v8005, some 10, 0, false⟩)], [(1000001500, some [.int .i64 0, .int .i64 0, .int .i64 0, .nils]), (1000001501, some [.int .i64 v7001.quantum, .int .i64 v7001.nextId, .int .i64 p1_0, .own 1000001000])]⟩ := by
 unfold i_RemoveJob_j2 at h
 refine posF_of rfl rfl ?_
 try simp only [go_sem]
 replace h := bindE h
 obtain ⟨v13001, hv13001, h⟩ := h
 refine call_i (i_copyQueue_ok _ _ hv13001) ?_
 try simp only [go_sem]
 refine seq_go ?_
 try simp only [go_sem]
 cases h
 simp only [go_sem]
theorem i_RemoveJob_j1_ok (v7001 : Queue) (v8005 : (List Job)) (p0_0 : Int) (r : Queue × Int) (h : i_RemoveJob_j1 v7001 v8005 p0_0 = some r) : posF Tryz.prog Tryz.f54 [1, 1, 1, 1, 1, 1] (.tup [.agg (Queue.rv r.1), .int .i64 r.2]) ⟨[(4, .box 1000000500 0), (8, .box 1000000501 0)], [(1000000000, some ⟨List.map Job.ds v8005, some 10, 0, false⟩)], [(1000000500, some [.int .i64 0, .int .i64 0, .int .i64 0, .nils]), (1000000501, some [.int .i64 v7001.quantum, .int .i64 v7001.nextId, .int .i64 p0_0, .own 1000000000])]⟩ := by
 unfold i_RemoveJob_j1 at h
 refine posF_of rfl rfl ?_
 try simp only [go_sem]
 refine cond_i (fun hb4 => ?_) (fun hb4 => ?_)
 ·replace h := ifT (c := (decide (((List.length v8005 : Nat) : Int) ≤ p0_0))) hb4 h
  try simp only [go_sem]
  have hj := posF_to rfl rfl (i_RemoveJob_j2_ok v7001 v8005 0 _ h)
  refine seq_to hj (.one ⟨_, .done _, [(1000001000, 1000000000)], [(1000001500, 1000000500), (1000001501, 1000000501)], ?_⟩)
  clear hj
  try simp only [go_sem]
 ·replace h := ifF (c := (decide (((List.length v8005 : Nat) : Int) ≤ p0_0))) hb4 h
  try simp only [go_sem]
  have hj := posF_to rfl rfl (i_RemoveJob_j2_ok v7001 v8005 p0_0 _ h)
  refine seq_to hj (.one ⟨_, .done _, [(1000001000, 1000000000)], [(1000001500, 1000000500), (1000001501, 1000000501)], ?_⟩)
  clear hj
  try simp only [go_sem]
theorem i_RemoveJob_ok (a0 : Queue) (a1 : Int) (r : Queue × Int) (h : i_RemoveJob a0 a1 = some r) : AC Tryz.prog 54 [.agg (Queue.avs a0), .int .i64 a1] (.tup [.agg (Queue.rv r.1), .int .i64 r.2]) := by
 unfold i_RemoveJob at h
 refine ac_fn mixed Tryz.func54 rfl rfl rfl (by kernel_rfl) (by kernel_rfl) ?_
 try simp only [go_sem]
 replace h := bindE h
 obtain ⟨v2001, hv2001, h⟩ := h
 refine call_i (i_Queue_found_ok _ _ _ hv2001) ?_
 try simp only [go_sem]
 refine seq_go ?_
 try simp only [go_sem]
 refine cond_i (fun hb1 => ?_) (fun hb1 => ?_)
 ·replace h := ifT (c := (!decide (v2001.2 = 0))) hb1 h
  try simp only [go_sem]
  cases h
  simp only [go_sem]
 ·replace h := ifF (c := (!decide (v2001.2 = 0))) hb1 h
  try simp only [go_sem]
  replace h := bindE h
  obtain ⟨v5003, hv5003, h⟩ := h
  refine idx_m hv5003 (Job.ds_len _) ?_
  try simp only [go_sem]
  refine cond_i (fun hb2 => ?_) (fun hb2 => ?_)
  ·replace h := ifT (c := (decide (v5003.state = 1))) hb2 h
   try simp only [go_sem]
   cases h
   simp only [go_sem]
  ·replace h := ifF (c := (decide (v5003.state = 1))) hb2 h
   try simp only [go_sem]
   refine seq_go ?_
   try simp only [go_sem]
   replace h := bindE h
   obtain ⟨v7001, hv7001, h⟩ := h
   refine call_i (i_copyQueue_ok _ _ hv7001) ?_
   try simp only [go_sem]
   refine seq_go ?_
   try simp only [go_sem]
   replace h := bindE h
   obtain ⟨v8005, hv8005, h⟩ := h
   refine call_g ⟨[], [(1001, 112016)], [], [(1501, 128080)], [], true⟩ (by kernel_rfl) (g_Delete_simpl_Job_ok _ _ _ _ hv8005) (by kernel_rfl) ?_
   try simp only [go_sem]
   refine seq_go ?_
   try simp only [go_sem]
   refine cond_i (fun hb3 => ?_) (fun hb3 => ?_)
   ·replace h := ifT (c := (decide (v2001.1 < v7001.turn))) hb3 h
    try simp only [go_sem]
    have hj := posF_to rfl rfl (i_RemoveJob_j1_ok v7001 v8005 (IntKind.i64.wrap (v7001.turn - 1)) _ h)
    refine seq_to hj (.one ⟨_, .done _, [(1000000000, 128080)], [(1000000500, 1001), (1000000501, 7002)], ?_⟩)
    clear hj
    try simp only [go_sem]
   ·replace h := ifF (c := (decide (v2001.1 < v7001.turn))) hb3 h
    try simp only [go_sem]
    have hj := posF_to rfl rfl (i_RemoveJob_j1_ok v7001 v8005 v7001.turn _ h)
    refine seq_to hj (.one ⟨_, .done _, [(1000000000, 128080)], [(1000000500, 1001), (1000000501, 7002)], ?_⟩)
    clear hj
    try simp only [go_sem]
theorem l_FnExactRemoveJob_j3_ok (v8002 : Queue × Int) (v18002 : Int × (List Job)) (p2_0 : Bool) (r : Bool) (h : l_FnExactRemoveJob_j3 v8002 v18002 p2_0 = some r) : posF Tryz.prog Tryz.f11 [1, 1, 1, 1, 1, 1, 1, 1, 1, 1, 1, 1, 1, 1, 1, 1, 1, 1, 1, 0, 1] (.bool r) ⟨[(9, .box 1000002500 0), (12, .int .i64 v18002.1), (92, .bool p2_0)], [(1000002000, some ⟨List.map Job.ds v18002.2, some 10, 0, false⟩)], [(1000002500, some [.int .i64 v8002.1.quantum, .int .i64 v8002.1.nextId, .int .i64 v8002.1.turn, .own 1000002000])]⟩ := by
 unfold l_FnExactRemoveJob_j3 at h
 refine posF_of rfl rfl ?_
 try simp only [go_sem]
 refine cond_i (fun hb11 => ?_) (fun hb11 => ?_)
 ·replace h := ifT (c := p2_0) hb11 h
  try simp only [go_sem]
  cases h
  simp only [go_sem]
 ·replace h := ifF (c := p2_0) hb11 h
  try simp only [go_sem]
  refine seq_go ?_
  try simp only [go_sem]
  replace h := bindE h
  obtain ⟨v29002, hv29002, h⟩ := h
  refine call_i (l_heldQueue_ok _ _ _ hv29002) ?_
  try simp only [go_sem]
  refine seq_go ?_
  try simp only [go_sem]
  refine cond_i (fun hb12 => ?_) (fun hb12 => ?_)
  ·replace h := ifT (c := (decide (v29002 < 0))) hb12 h
   try simp only [go_sem]
   cases h
   simp only [go_sem]
  ·replace h := ifF (c := (decide (v29002 < 0))) hb12 h
   try simp only [go_sem]
   refine seq_go ?_
   try simp only [go_sem]
   refine cond_i (fun hb13 => ?_) (fun hb13 => ?_)
   ·replace h := ifT (c := (!decide (v29002 = v18002.1))) hb13 h
    try simp only [go_sem]
    cases h
    simp only [go_sem]
   ·replace h := ifF (c := (!decide (v29002 = v18002.1))) hb13 h
    try simp only [go_sem]
    refine seq_go ?_
    try simp only [go_sem]
    cases h
    simp only [go_sem]
theorem l_FnExactRemoveJob_j2_ok (a0 : Queue) (a1 : Int) (v6003 : Queue × Int) (v8002 : Queue × Int) (p1_0 : Bool) (r : Bool) (h : l_FnExactRemoveJob_j2 a0 a1 v6003 v8002 p1_0 = some r) : posF Tryz.prog Tryz.f11 [1, 1, 1, 1, 1, 1, 1, 1, 1, 1, 1, 0, 1] (.bool r) ⟨[(1, .int .i64 a1), (2, .box 1000001500 0), (6, .box 1000001501 0), (7, .int .i64 v6003.2), (9, .box 1000001502 0), (65, .bool p1_0)], [(1000001000, some ⟨List.map Job.ds v8002.1.jobs, some 10, 0, false⟩)], [(1000001500, some [.int .i64 a0.quantum, .int .i64 a0.nextId, .int .i64 a0.turn, .ro (List.map Job.ds a0.jobs)]), (1000001501, some [.int .i64 v6003.1.quantum, .int .i64 v6003.1.nextId, .int .i64 v6003.1.turn, .ro (List.map Job.ds v6003.1.jobs)]), (1000001502, some [.int .i64 v8002.1.quantum, .int .i64 v8002.1.nextId, .int .i64 v8002.1.turn, .own 1000001000])]⟩ := by
 unfold l_FnExactRemoveJob_j2 at h
 refine posF_of rfl rfl ?_
 try simp only [go_sem]
 refine cond_i (fun hb7 => ?_) (fun hb7 => ?_)
 ·replace h := ifT (c := p1_0) hb7 h
  try simp only [go_sem]
  cases h
  simp only [go_sem]
 ·replace h := ifF (c := p1_0) hb7 h
  try simp only [go_sem]
  refine seq_go ?_
  try simp only [go_sem]
  replace h := bindE h
  obtain ⟨v18002, hv18002, h⟩ := h
  refine call_g ⟨[], [(1, 1000001000)], [], [], [], true⟩ (by kernel_rfl) (l_markQueue_ok _ _ (some 10) _ hv18002) (by kernel_rfl) ?_
  try simp only [go_sem]
  refine seq_go ?_
  try simp only [go_sem]
  replace h := bindE h
  obtain ⟨v20002, hv20002, h⟩ := h
  refine call_i (l_heldQueue_ok _ _ _ hv20002) ?_
  try simp only [go_sem]
  refine seq_go ?_
  try simp only [go_sem]
  refine cond_i (fun hb8 => ?_) (fun hb8 => ?_)
  ·replace h := ifT (c := (decide (v20002 < 0))) hb8 h
   try simp only [go_sem]
   cases h
   simp only [go_sem]
  ·replace h := ifF (c := (decide (v20002 < 0))) hb8 h
   try simp only [go_sem]
   refine seq_go ?_
   try simp only [go_sem]
   refine cond_i (fun hb9 => ?_) (fun hb9 => ?_)
   ·replace h := ifT (c := (!decide (v20002 = v18002.1))) hb9 h
    try simp only [go_sem]
    cases h
    simp only [go_sem]
   ·replace h := ifF (c := (!decide (v20002 = v18002.1))) hb9 h
    try simp only [go_sem]
    refine seq_go ?_
    try simp only [go_sem]
    replace h := bindE h
    obtain ⟨v25001, hv25001, h⟩ := h
    refine call_i (l_toQueue_ok _ _ hv25001) ?_
    try simp only [go_sem]
    replace h := bindE h
    obtain ⟨v25003, hv25003, h⟩ := h
    refine call_i (i_RemoveJob_ok _ _ _ hv25003) ?_
    try simp only [go_sem]
    refine seq_go ?_
    try simp only [go_sem]
    replace h := bindE h
    obtain ⟨v26002, hv26002, h⟩ := h
    refine call_i (l_eqQueue_ok _ _ _ hv26002) ?_
    try simp only [go_sem]
    refine cond_i (fun hb10 => ?_) (fun hb10 => ?_)
    ·replace h := ifT (c := (!v26002)) hb10 h
     try simp only [go_sem]
     have hj := posF_to rfl rfl (l_FnExactRemoveJob_j3_ok v8002 v18002 true _ h)
     refine seq_to hj (.one ⟨_, .done _, [(1000002000, 1000001000)], [(1000002500, 1000001502)], ?_⟩)
     clear hj
     try simp only [go_sem]
    ·replace h := ifF (c := (!v26002)) hb10 h
     try simp only [go_sem]
     have hj := posF_to rfl rfl (l_FnExactRemoveJob_j3_ok v8002 v18002 (!decide (v25003.2 = v6003.2)) _ h)
     refine seq_to hj (.one ⟨_, .done _, [(1000002000, 1000001000)], [(1000002500, 1000001502)], ?_⟩)
     clear hj
     try simp only [go_sem]
theorem l_FnExactRemoveJob_j1_ok (a0 : Queue) (a1 : Int) (v6003 : Queue × Int) (v7001 : Queue) (v8002 : Queue × Int) (p0_0 : Bool) (r : Bool) (h : l_FnExactRemoveJob_j1 a0 a1 v6003 v7001 v8002 p0_0 = some r) : posF Tryz.prog Tryz.f11 [1, 1, 1, 1, 1, 1, 1, 0, 1] (.bool r) ⟨[(1, .int .i64 a1), (2, .box 1000000500 0), (6, .box 1000000501 0), (7, .int .i64 v6003.2), (8, .box 1000000502 0), (9, .box 1000000503 0), (10, .int .i64 v8002.2), (44, .bool p0_0)], [(1000000000, some ⟨List.map Job.ds v7001.jobs, some 10, 0, false⟩), (1000000001, some ⟨List.map Job.ds v8002.1.jobs, some 10, 0, false⟩)], [(1000000500, some [.int .i64 a0.quantum, .int .i64 a0.nextId, .int .i64 a0.turn, .ro (List.map Job.ds a0.jobs)]), (1000000501, some [.int .i64 v6003.1.quantum, .int .i64 v6003.1.nextId, .int .i64 v6003.1.turn, .ro (List.map Job.ds v6003.1.jobs)]), (1000000502, some [.int .i64 v7001.quantum, .int .i64 v7001.nextId, .int .i64 v7001.turn, .own 1000000000]), (1000000503, some [.int .i64 v8002.1.quantum, .int .i64 v8002.1.nextId, .int .i64 v8002.1.turn, .own 1000000001])]⟩ := by
 unfold l_FnExactRemoveJob_j1 at h
 refine posF_of rfl rfl ?_
 try simp only [go_sem]
 refine cond_i (fun hb3 => ?_) (fun hb3 => ?_)
 ·replace h := ifT (c := p0_0) hb3 h
  try simp only [go_sem]
  cases h
  simp only [go_sem]
 ·replace h := ifF (c := p0_0) hb3 h
  try simp only [go_sem]
  refine seq_go ?_
  try simp only [go_sem]
  refine draw_i [] .fin (by kernel_rfl) ?_
  try simp only [go_sem]
  replace h := bindE h
  obtain ⟨v11002, hv11002, h⟩ := h
  refine call_i (l_toQueue_ok _ _ hv11002) ?_
  try simp only [go_sem]
  replace h := bindE h
  obtain ⟨v11003, hv11003, h⟩ := h
  refine call_i (l_eqQueue_ok _ _ _ hv11003) ?_
  try simp only [go_sem]
  refine seq_go ?_
  try simp only [go_sem]
  refine cond_i (fun hb4 => ?_) (fun hb4 => ?_)
  ·replace h := ifT (c := (!v11003)) hb4 h
   try simp only [go_sem]
   cases h
   simp only [go_sem]
  ·replace h := ifF (c := (!v11003)) hb4 h
   try simp only [go_sem]
   refine seq_go ?_
   try simp only [go_sem]
   replace h := bindE h
   obtain ⟨v14002, hv14002, h⟩ := h
   refine call_g ⟨[], [(1, 1000000000)], [], [], [], true⟩ (by kernel_rfl) (l_markQueue_ok _ _ (some 10) _ hv14002) (by kernel_rfl) ?_
   try simp only [go_sem]
   refine seq_go ?_
   try simp only [go_sem]
   refine cond_i (fun hb5 => ?_) (fun hb5 => ?_)
   ·replace h := ifT (c := (decide (v14002.1 < 0))) hb5 h
    try simp only [go_sem]
    have hj := posF_to rfl rfl (l_FnExactRemoveJob_j2_ok a0 a1 v6003 v8002 true _ h)
    refine seq_to hj (.one ⟨_, .done _, [(1000001000, 1000000001)], [(1000001500, 1000000500), (1000001501, 1000000501), (1000001502, 1000000503)], ?_⟩)
    clear hj
    try simp only [go_sem]
   ·replace h := ifF (c := (decide (v14002.1 < 0))) hb5 h
    try simp only [go_sem]
    replace h := bindE h
    obtain ⟨v15005, hv15005, h⟩ := h
    refine call_i (l_eqQueue_ok _ _ _ hv15005) ?_
    try simp only [go_sem]
    refine cond_i (fun hb6 => ?_) (fun hb6 => ?_)
    ·replace h := ifT (c := (!v15005)) hb6 h
     try simp only [go_sem]
     have hj := posF_to rfl rfl (l_FnExactRemoveJob_j2_ok a0 a1 v6003 v8002 true _ h)
     refine seq_to hj (.one ⟨_, .done _, [(1000001000, 1000000001)], [(1000001500, 1000000500), (1000001501, 1000000501), (1000001502, 1000000503)], ?_⟩)
     clear hj
     try simp only [go_sem]
    ·replace h := ifF (c := (!v15005)) hb6 h
     try simp only [go_sem]
     have hj := posF_to rfl rfl (l_FnExactRemoveJob_j2_ok a0 a1 v6003 v8002 (!decide (v8002.2 = v6003.2)) _ h)
     refine seq_to hj (.one ⟨_, .done _, [(1000001000, 1000000001)], [(1000001500, 1000000500), (1000001501, 1000000501), (1000001502, 1000000503)], ?_⟩)
     clear hj
     try simp only [go_sem]
theorem l_FnExactRemoveJob_ok (a0 : Queue) (a1 : Int) (r : Bool) (h : l_FnExactRemoveJob a0 a1 = some r) : AC Tryz.prog 11 [.agg (Queue.avs a0), .int .i64 a1] (.bool r) := by
 unfold l_FnExactRemoveJob at h
 refine ac_fn mixed Tryz.func11 rfl rfl rfl (by kernel_rfl) (by kernel_rfl) ?_
 try simp only [go_sem]
 replace h := bindE h
 obtain ⟨v3002, hv3002, h⟩ := h
 refine call_i (l_szQueue_ok _ _ _ hv3002) ?_
 try simp only [go_sem]
 refine seq_go ?_
 try simp only [go_sem]
 refine cond_i (fun hb1 => ?_) (fun hb1 => ?_)
 ·replace h := ifT (c := (decide (v3002 < 0))) hb1 h
  try simp only [go_sem]
  cases h
  simp only [go_sem]
 ·replace h := ifF (c := (decide (v3002 < 0))) hb1 h
  try simp only [go_sem]
  refine seq_go ?_
  try simp only [go_sem]
  replace h := bindE h
  obtain ⟨v6001, hv6001, h⟩ := h
  refine call_i (l_toQueue_ok _ _ hv6001) ?_
  try simp only [go_sem]
  replace h := bindE h
  obtain ⟨v6003, hv6003, h⟩ := h
  refine call_g ⟨[], [(1001, 96016)], [], [], [], true⟩ (by kernel_rfl) (s_RemoveJob_ok _ _ _ hv6003) (by kernel_rfl) ?_
  try simp only [go_sem]
  refine seq_go ?_
  try simp only [go_sem]
  replace h := bindE h
  obtain ⟨v7001, hv7001, h⟩ := h
  refine call_i (l_toQueue_ok _ _ hv7001) ?_
  try simp only [go_sem]
  refine seq_go ?_
  try simp only [go_sem]
  replace h := bindE h
  obtain ⟨v8002, hv8002, h⟩ := h
  refine call_i (i_RemoveJob_ok _ _ _ hv8002) ?_
  try simp only [go_sem]
  refine seq_go ?_
  try simp only [go_sem]
  replace h := bindE h
  obtain ⟨v9002, hv9002, h⟩ := h
  refine call_i (l_eqQueue_ok _ _ _ hv9002) ?_
  try simp only [go_sem]
  refine cond_i (fun hb2 => ?_) (fun hb2 => ?_)
  ·replace h := ifT (c := (!v9002)) hb2 h
   try simp only [go_sem]
   have hj := posF_to rfl rfl (l_FnExactRemoveJob_j1_ok a0 a1 v6003 v7001 v8002 true _ h)
   refine seq_to hj (.one ⟨_, .done _, [(1000000000, 112016), (1000000001, 128032)], [(1000000500, 1000), (1000000501, 6007), (1000000502, 7002), (1000000503, 8006)], ?_⟩)
   clear hj
   try simp only [go_sem]
  ·replace h := ifF (c := (!v9002)) hb2 h
   try simp only [go_sem]
   have hj := posF_to rfl rfl (l_FnExactRemoveJob_j1_ok a0 a1 v6003 v7001 v8002 (!decide (v8002.2 = v6003.2)) _ h)
   refine seq_to hj (.one ⟨_, .done _, [(1000000000, 112016), (1000000001, 128032)], [(1000000500, 1000), (1000000501, 6007), (1000000502, 7002), (1000000503, 8006)], ?_⟩)
   clear hj
   try simp only [go_sem]
end Go.Proofs.YtckcfdggbbabfaaGreat.Ab
