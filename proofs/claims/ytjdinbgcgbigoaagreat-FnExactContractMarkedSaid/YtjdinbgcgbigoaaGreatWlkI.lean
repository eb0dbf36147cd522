/-
 The functions do what their models say. Printed by wip/ab/gen.py.
-/
import Derived.Test.YtjdinbgcgbigoaaGreatModI
import Derived.Test.YtjdinbgcgbigoaaGreatTi2
import Derived.Test.YtjdinbgcgbigoaaGreatWlk
namespace Go.Proofs.YtjdinbgcgbigoaaGreat.Ab
set_option linter.unusedVariables false
set_option linter.unusedSimpArgs false
set_option maxRecDepth 20000
set_option maxHeartbeats 4000000
open Go.RowKit
theorem g_Clone_sint64_ok (a0 : List Int) (r : (List Int)) (h : g_Clone_sint64 a0 = some r) : AC Tryz.prog 155 [.ro (List.map i64D a0)] (.ow (some 1) (List.map i64D r)) := by
 unfold g_Clone_sint64 at h
 refine ac_fn mixed Tryz.func155 rfl rfl rfl (by kernel_rfl) (by kernel_rfl) ?_
 try simp only [go_sem]
 refine nil_i (by simp only [go_sem]) (fun h0 => ?_) ?_
 ·try simp only [go_sem]
  have hq_ := List.map_eq_nil_iff.1 h0
  obtain rfl := hq_
  obtain rfl : r = [] := by cases h; rfl
  simp only [go_sem]
 ·try simp only [go_sem]
  refine seq_go ?_
  try simp only [go_sem]
  replace h := bindE h
  obtain ⟨v4002,hv4002,h⟩ := h
  have hq_ := app_some hv4002
  obtain ⟨hv4002a,hv4002b⟩ := hq_
  refine zed_i false ?_
  try simp only [go_sem]
  refine and_i (flat_rows_of (by intro x; exact ⟨rfl,by simp [go_sem,D.flat]⟩) _) ?_
  try simp only [go_sem]
  refine and_i (by refine ⟨?_,?_⟩ <;> (try simp only [List.length_map,List.length_append,List.length_cons,List.length_nil] at *) <;> (try unfold maxLen) <;> omega) ?_
  try simp only [go_sem]
  refine row_i (List.map i64D v4002) (by rw [← hv4002b]; simp only [List.map_append,List.map_cons,List.map_nil,List.nil_append,List.append_nil,go_sem,slD]) ?_
  try simp only [go_sem]
  refine seq_go ?_
  try simp only [go_sem]
  cases h
  simp only [go_sem]
theorem i_mapVars_all (n : Nat) : (∀ (a0 : Core) (a1 : Int) (f2 : (Core → Int → Option Core)) (g2 : FuncId) (c2 : List AV) (s2 : Still c2) (h2 : ∀ (y0 : Core) (y1 : Int) (q : Core),f2 y0 y1 = some q → AC Tryz.prog g2 (.agg (Core.avs y0) :: .int .i64 y1 :: c2) (.agg (Core.rvn q))) (r : Core),i_mapVars n a0 a1 f2 = some r → AC Tryz.prog 399 [.agg (Core.avs a0),.int .i64 a1,.fn g2 c2] (.agg (Core.rvn r))) ∧
    (∀ (a0 : Core) (a1 : Int) (v4006 : (List Int)) (p1_0 : List Core) (p1_1 : Int) (f2 : (Core → Int → Option Core)) (g2 : FuncId) (c2 : List AV) (s2 : Still c2) (h2 : ∀ (y0 : Core) (y1 : Int) (q : Core),f2 y0 y1 = some q → AC Tryz.prog g2 (.agg (Core.avs y0) :: .int .i64 y1 :: c2) (.agg (Core.rvn q))) (r : Core),i_mapVars_l2 n a0 a1 v4006 p1_0 p1_1 f2 = some r → posF Tryz.prog Tryz.f399 [1,1,1,0,1,0] (.agg (Core.rvn r)) ⟨[(1,.int .i64 a1),(2,.fn g2 c2),(3,.box 1000001500 0),(6,.box 1000001501 0),(7,.box 1000001502 0),(26,.ro (List.map Core.ds a0.kids)),(27,.int .i64 ((List.length a0.kids : Nat) : Int)),(28,.int .i64 p1_1)],[(1000001000,some ⟨List.map i64D v4006,some 1,0,false⟩),(1000001001,some ⟨List.map Core.ds p1_0,some 4,0,false⟩)],[(1000001500,some [.int .i64 a0.kind,.int .i64 a0.value,.ro (List.map i64D a0.data),.ro (List.map Core.ds a0.kids)]),(1000001501,some [.int .i64 0,.int .i64 0,.nils,.nils]),(1000001502,some [.int .i64 a0.kind,.int .i64 a0.value,.own 1000001000,.own 1000001001])]⟩) := by
 induction n with
 | zero => exact ⟨(fun _ _ _ _ _ _ _ _ h => by rw [i_mapVars] at h; cases h),(fun _ _ _ _ _ _ _ _ _ _ _ h => by rw [i_mapVars_l2] at h; cases h)⟩
 | succ n ih =>
  obtain ⟨ih0,ih1⟩ := ih
  refine ⟨?_,?_⟩
  ·intro a0 a1 f2 g2 c2 s2 h2 r h
   rw [i_mapVars] at h
   refine ac_fn mixed Tryz.func399 rfl rfl rfl (by kernel_rfl) (by kernel_rfl) ?_
   try simp only [go_sem,s2.k,s2.r,s2.c,s2.p]
   refine cond_i (fun hb1 => ?_) (fun hb1 => ?_)
   ·replace h := ifT (c := (decide (a0.kind = 1))) hb1 h
    try simp only [go_sem,s2.k,s2.r,s2.c,s2.p]
    replace h := bindE h
    obtain ⟨v3003,hv3003,h⟩ := h
    refine call_i (h2 _ _ _ hv3003) ?_
    try simp only [go_sem,s2.k,s2.r,s2.c,s2.p]
    refine seq_go ?_
    try simp only [go_sem,s2.k,s2.r,s2.c,s2.p]
    cases h
    simp only [go_sem,s2.k,s2.r,s2.c,s2.p]
   ·replace h := ifF (c := (decide (a0.kind = 1))) hb1 h
    try simp only [go_sem,s2.k,s2.r,s2.c,s2.p]
    refine seq_go ?_
    try simp only [go_sem,s2.k,s2.r,s2.c,s2.p]
    refine draw_i [false,false,false,false,false,false,false,false,false,true] (Tr.sq [9] .fin) (by kernel_rfl) ?_
    try simp only [go_sem,s2.k,s2.r,s2.c,s2.p]
    replace h := bindE h
    obtain ⟨v4006,hv4006,h⟩ := h
    refine call_i (g_Clone_sint64_ok _ _ hv4006) ?_
    try simp only [go_sem,s2.k,s2.r,s2.c,s2.p]
    refine seq_go ?_
    try simp only [go_sem,s2.k,s2.r,s2.c,s2.p]
    have hj := posF_to rfl rfl (ih1 a0 a1 v4006 [] 0 f2 g2 c2 s2 h2 _ h)
    refine loop_to hj (.one ⟨_,.cell 4008 3 2000000000 (some 4) false _ (by simp only [go_sem,s2.k,s2.r,s2.c,s2.p]; rfl) (by rfl) (by simp only [go_sem,s2.k,s2.r,s2.c,s2.p]) (.done _),[(1000001000,64096),(1000001001,2000000000)],[(1000001500,1000),(1000001501,1001),(1000001502,4008)],?_⟩)
    clear hj
    simp only [go_sem,s2.k,s2.r,s2.c,s2.p]
    all_goals try rfl
  ·intro a0 a1 v4006 p1_0 p1_1 f2 g2 c2 s2 h2 r h
   rw [i_mapVars_l2] at h
   refine posF_of rfl rfl ?_
   try simp only [go_sem,s2.k,s2.r,s2.c,s2.p]
   refine loop_i ?_
   try simp only [go_sem,s2.k,s2.r,s2.c,s2.p]
   refine cond_i (fun hb2 => ?_) (fun hb2 => ?_)
   ·replace h := ifT (c := (decide (p1_1 < ((List.length a0.kids : Nat) : Int)))) hb2 h
    try simp only [go_sem,s2.k,s2.r,s2.c,s2.p]
    refine seq_go ?_
    try simp only [go_sem,s2.k,s2.r,s2.c,s2.p]
    replace h := bindE h
    obtain ⟨v7001,hv7001,h⟩ := h
    refine idx_m hv7001 (Core.ds_len _) ?_
    try simp only [go_sem,s2.k,s2.r,s2.c,s2.p]
    refine draw_i [false,false,false,false,false,false,false,false,false,false,false,true,true,true] (Tr.sq [11,12,13] .fin) (by kernel_rfl) ?_
    try simp only [go_sem,s2.k,s2.r,s2.c,s2.p]
    replace h := bindE h
    obtain ⟨v8006,hv8006,h⟩ := h
    refine call_i (i_Core_binds_ok _ _ _ hv8006) ?_
    try simp only [go_sem,s2.k,s2.r,s2.c,s2.p]
    replace h := bindE h
    obtain ⟨v8009,hv8009,h⟩ := h
    refine call_i (ih0 _ _ _ g2 c2 s2 h2 _ hv8009) ?_
    try simp only [go_sem,s2.k,s2.r,s2.c,s2.p]
    replace h := bindE h
    obtain ⟨v8011,hv8011,h⟩ := h
    have hq_ := app_some hv8011
    obtain ⟨hv8011a,hv8011b⟩ := hq_
    refine zed_i false ?_
    try simp only [go_sem,s2.k,s2.r,s2.c,s2.p]
    refine and_i (by refine ⟨?_,?_⟩ <;> (try simp only [List.length_map,List.length_append,List.length_cons,List.length_nil] at *) <;> (try unfold maxLen) <;> omega) ?_
    try simp only [go_sem,s2.k,s2.r,s2.c,s2.p]
    refine row_i (List.map Core.ds v8011) (by rw [← hv8011b]; simp only [List.map_append,List.map_cons,List.map_nil,List.nil_append,List.append_nil,go_sem,Core.ds_eq]) ?_
    try simp only [go_sem,s2.k,s2.r,s2.c,s2.p]
    refine seq_go ?_
    try simp only [go_sem,s2.k,s2.r,s2.c,s2.p]
    have hj := posF_to rfl rfl (ih1 a0 a1 v4006 v8011 (IntKind.i64.wrap (p1_1 + 1)) f2 g2 c2 s2 h2 _ h)
    refine lp_to hj (.one ⟨_,.done _,[(1000001000,1000001000),(1000001001,128176)],[(1000001500,1000001500),(1000001501,1000001501),(1000001502,1000001502)],?_⟩)
    clear hj
    try simp only [go_sem,s2.k,s2.r,s2.c,s2.p]
   ·replace h := ifF (c := (decide (p1_1 < ((List.length a0.kids : Nat) : Int)))) hb2 h
    try simp only [go_sem,s2.k,s2.r,s2.c,s2.p]
    refine seq_go ?_
    try simp only [go_sem,s2.k,s2.r,s2.c,s2.p]
    cases h
    simp only [go_sem,s2.k,s2.r,s2.c,s2.p]
theorem i_mapVars_ok (n : Nat) : (∀ (a0 : Core) (a1 : Int) (f2 : (Core → Int → Option Core)) (g2 : FuncId) (c2 : List AV) (s2 : Still c2) (h2 : ∀ (y0 : Core) (y1 : Int) (q : Core),f2 y0 y1 = some q → AC Tryz.prog g2 (.agg (Core.avs y0) :: .int .i64 y1 :: c2) (.agg (Core.rvn q))) (r : Core),i_mapVars n a0 a1 f2 = some r → AC Tryz.prog 399 [.agg (Core.avs a0),.int .i64 a1,.fn g2 c2] (.agg (Core.rvn r))) := (i_mapVars_all n).1
theorem i_shift_1_ok (a0 : Core) (a1 : Int) (a2 : Int) (a3 : Int) (r : Core) (h : i_shift_1 a0 a1 a2 a3 = some r) : AC Tryz.prog 494 [.agg (Core.avs a0),.int .i64 a1,.rop [.int .i64 a2] 0,.rop [.int .i64 a3] 0] (.agg (Core.rvn r)) := by
 unfold i_shift_1 at h
 refine ac_fn mixed Tryz.func494 rfl rfl rfl (by kernel_rfl) (by kernel_rfl) ?_
 try simp only [go_sem]
 refine cond_i (fun hb1 => ?_) (fun hb1 => ?_)
 ·replace h := ifT (c := (decide ((IntKind.i64.wrap (a1 + a2)) ≤ a0.value))) hb1 h
  try simp only [go_sem]
  refine seq_go ?_
  try simp only [go_sem]
  replace h := bindE h
  obtain ⟨em0,hem0,h⟩ := h
  replace h := bindE h
  obtain ⟨em1,hem1,h⟩ := h
  replace hem0 := emp_some hem0
  replace hem1 := emp_some hem1
  cases h
  simp only [go_sem,hem0,hem1]
 ·replace h := ifF (c := (decide ((IntKind.i64.wrap (a1 + a2)) ≤ a0.value))) hb1 h
  try simp only [go_sem]
  refine seq_go ?_
  try simp only [go_sem]
  replace h := bindE h
  obtain ⟨em0,hem0,h⟩ := h
  replace h := bindE h
  obtain ⟨em1,hem1,h⟩ := h
  replace hem0 := emp_some hem0
  replace hem1 := emp_some hem1
  cases h
  simp only [go_sem,hem0,hem1]
theorem i_shift_ok (a0 : Core) (a1 : Int) (a2 : Int) (r : Core) (h : i_shift a0 a1 a2 = some r) : AC Tryz.prog 401 [.agg (Core.avs a0),.int .i64 a1,.int .i64 a2] (.agg (Core.rvn r)) := by
 unfold i_shift at h
 refine ac_fn mixed Tryz.func401 rfl rfl rfl (by kernel_rfl) (by kernel_rfl) ?_
 try simp only [go_sem]
 replace h := bindE h
 obtain ⟨v2002,hv2002,h⟩ := h
 refine call_i (i_mapVars_ok fuel _ _ _ 494 [.rop [.int .i64 a2] 0,.rop [.int .i64 a1] 0] (Still.of (by simp only [pureAs,pureA,Bool.and_true,Bool.true_and,Bool.and_self])) (fun y0 y1 q hq => i_shift_1_ok y0 y1 _ _ q hq) _ hv2002) ?_
 try simp only [go_sem]
 refine seq_go ?_
 try simp only [go_sem]
 cases h
 simp only [go_sem]
theorem i_instantiate_1_ok (a0 : Core) (a1 : Int) (a2 : Core) (r : Core) (h : i_instantiate_1 a0 a1 a2 = some r) : AC Tryz.prog 400 [.agg (Core.avs a0),.int .i64 a1,.rop (Core.avs a2) 0] (.agg (Core.rvn r)) := by
 unfold i_instantiate_1 at h
 refine ac_fn mixed Tryz.func400 rfl rfl rfl (by kernel_rfl) (by kernel_rfl) ?_
 try simp only [go_sem]
 refine cond_i (fun hb1 => ?_) (fun hb1 => ?_)
 ·replace h := ifT (c := (decide (a0.value = a1))) hb1 h
  try simp only [go_sem]
  replace h := bindE h
  obtain ⟨v3002,hv3002,h⟩ := h
  refine call_i (i_shift_ok _ _ _ _ hv3002) ?_
  try simp only [go_sem]
  refine seq_go ?_
  try simp only [go_sem]
  cases h
  simp only [go_sem]
 ·replace h := ifF (c := (decide (a0.value = a1))) hb1 h
  try simp only [go_sem]
  refine cond_i (fun hb2 => ?_) (fun hb2 => ?_)
  ·replace h := ifT (c := (decide (a1 < a0.value))) hb2 h
   try simp only [go_sem]
   refine seq_go ?_
   try simp only [go_sem]
   replace h := bindE h
   obtain ⟨em0,hem0,h⟩ := h
   replace h := bindE h
   obtain ⟨em1,hem1,h⟩ := h
   replace hem0 := emp_some hem0
   replace hem1 := emp_some hem1
   cases h
   simp only [go_sem,hem0,hem1]
  ·replace h := ifF (c := (decide (a1 < a0.value))) hb2 h
   try simp only [go_sem]
   refine seq_go ?_
   try simp only [go_sem]
   replace h := bindE h
   obtain ⟨em0,hem0,h⟩ := h
   replace h := bindE h
   obtain ⟨em1,hem1,h⟩ := h
   replace hem0 := emp_some hem0
   replace hem1 := emp_some hem1
   cases h
   simp only [go_sem,hem0,hem1]
theorem i_instantiate_ok (a0 : Core) (a1 : Core) (r : Core) (h : i_instantiate a0 a1 = some r) : AC Tryz.prog 287 [.agg (Core.avs a0),.agg (Core.avs a1)] (.agg (Core.rvn r)) := by
 unfold i_instantiate at h
 refine ac_fn mixed Tryz.func287 rfl rfl rfl (by kernel_rfl) (by kernel_rfl) ?_
 try simp only [go_sem]
 replace h := bindE h
 obtain ⟨v2002,hv2002,h⟩ := h
 refine call_i (i_mapVars_ok fuel _ _ _ 400 [.rop [.int .i64 a1.kind,.int .i64 a1.value,.ro (List.map i64D a1.data),.ro (List.map Core.ds a1.kids)] 0] (Still.of (by simp only [pureAs,pureA,Bool.and_true,Bool.true_and,Bool.and_self])) (fun y0 y1 q hq => i_instantiate_1_ok y0 y1 _ q hq) _ hv2002) ?_
 try simp only [go_sem]
 refine seq_go ?_
 try simp only [go_sem]
 cases h
 simp only [go_sem]
theorem s_l06Count_all (n : Nat) : (∀ (a0 : Core) (a1 : Int) (r : Int),s_l06Count n a0 a1 = some r → AC Tryz.prog 270 [.rop (Core.avs a0) 0,.int .i64 a1] (.int .i64 r)) ∧
    (∀ (a0 : Core) (a1 : Int) (p0_0 : Int) (p0_1 : Int) (r : Int),s_l06Count_l1 n a0 a1 p0_0 p0_1 = some r → posF Tryz.prog Tryz.f270 [1,1,1,0,1,0] (.int .i64 r) ⟨[(0,.rop [.int .i64 a0.kind,.int .i64 a0.value,.ro (List.map i64D a0.data),.ro (List.map Core.ds a0.kids)] 0),(1,.int .i64 a1),(5,.int .i64 p0_0),(6,.int .i64 p0_1)],[],[]⟩) := by
 induction n with
 | zero => exact ⟨(fun _ _ _ h => by rw [s_l06Count] at h; cases h),(fun _ _ _ _ _ h => by rw [s_l06Count_l1] at h; cases h)⟩
 | succ n ih =>
  obtain ⟨ih0,ih1⟩ := ih
  refine ⟨?_,?_⟩
  ·intro a0 a1 r h
   rw [s_l06Count] at h
   refine ac_fn mixed Tryz.func270 rfl rfl rfl (by kernel_rfl) (by kernel_rfl) ?_
   try simp only [go_sem]
   refine cond_i (fun hb1 => ?_) (fun hb1 => ?_)
   ·replace h := ifT (c := (decide (a0.kind = 1))) hb1 h
    try simp only [go_sem]
    refine cond_i (fun hb2 => ?_) (fun hb2 => ?_)
    ·replace h := ifT (c := (decide (a0.value = a1))) hb2 h
     try simp only [go_sem]
     cases h
     simp only [go_sem]
    ·replace h := ifF (c := (decide (a0.value = a1))) hb2 h
     try simp only [go_sem]
     refine seq_go ?_
     try simp only [go_sem]
     cases h
     simp only [go_sem]
   ·replace h := ifF (c := (decide (a0.kind = 1))) hb1 h
    try simp only [go_sem]
    refine seq_go ?_
    try simp only [go_sem]
    have hj := posF_to rfl rfl (ih1 a0 a1 0 0 _ h)
    refine loop_to hj (.one ⟨_,.done _,[],[],?_⟩)
    clear hj
    try simp only [go_sem]
  ·intro a0 a1 p0_0 p0_1 r h
   rw [s_l06Count_l1] at h
   refine posF_of rfl rfl ?_
   try simp only [go_sem]
   refine loop_i ?_
   try simp only [go_sem]
   refine cond_i (fun hb3 => ?_) (fun hb3 => ?_)
   ·replace h := ifT (c := (decide (p0_1 < ((List.length a0.kids : Nat) : Int)))) hb3 h
    try simp only [go_sem]
    refine seq_go ?_
    try simp only [go_sem]
    refine draw_i [] .fin (by kernel_rfl) ?_
    try simp only [go_sem]
    replace h := bindE h
    obtain ⟨v10006,hv10006,h⟩ := h
    refine idx_m hv10006 (Core.ds_len _) ?_
    try simp only [go_sem]
    replace h := bindE h
    obtain ⟨v10010,hv10010,h⟩ := h
    refine call_i (s_l06Binds_ok _ _ _ hv10010) ?_
    try simp only [go_sem]
    replace h := bindE h
    obtain ⟨v10012,hv10012,h⟩ := h
    refine call_i (ih0 _ _ _ hv10012) ?_
    try simp only [go_sem]
    refine seq_go ?_
    try simp only [go_sem]
    have hj := posF_to rfl rfl (ih1 a0 a1 (IntKind.i64.wrap (p0_0 + v10012)) (IntKind.i64.wrap (p0_1 + 1)) _ h)
    refine lp_to hj (.one ⟨_,.done _,[],[],?_⟩)
    clear hj
    try simp only [go_sem]
   ·replace h := ifF (c := (decide (p0_1 < ((List.length a0.kids : Nat) : Int)))) hb3 h
    try simp only [go_sem]
    refine seq_go ?_
    try simp only [go_sem]
    cases h
    simp only [go_sem]
theorem s_l06Count_ok (n : Nat) : (∀ (a0 : Core) (a1 : Int) (r : Int),s_l06Count n a0 a1 = some r → AC Tryz.prog 270 [.rop (Core.avs a0) 0,.int .i64 a1] (.int .i64 r)) := (s_l06Count_all n).1
theorem s_l00Own_ok (a0 : List Int) (r : (List Int)) (h : s_l00Own a0 = some r) : AC Tryz.prog 170 [.ro (List.map i64D a0)] (.ow (some 1) (List.map i64D r)) := by
 unfold s_l00Own at h
 refine ac_fn mixed Tryz.func170 rfl rfl rfl (by kernel_rfl) (by kernel_rfl) ?_
 try simp only [go_sem]
 replace h := bindE h
 obtain ⟨v2002,hv2002,h⟩ := h
 have hq_ := app_some hv2002
 obtain ⟨hv2002a,hv2002b⟩ := hq_
 refine zed_i false ?_
 try simp only [go_sem]
 refine and_i (flat_rows_of (by intro x; exact ⟨rfl,by simp [go_sem,D.flat]⟩) _) ?_
 try simp only [go_sem]
 refine and_i (by refine ⟨?_,?_⟩ <;> (try simp only [List.length_map,List.length_append,List.length_cons,List.length_nil] at *) <;> (try unfold maxLen) <;> omega) ?_
 try simp only [go_sem]
 refine row_i (List.map i64D v2002) (by rw [← hv2002b]; simp only [List.map_append,List.map_cons,List.map_nil,List.nil_append,List.append_nil,go_sem,slD]) ?_
 try simp only [go_sem]
 refine seq_go ?_
 try simp only [go_sem]
 cases h
 simp only [go_sem]
theorem s_l06Shift_all (n : Nat) : (∀ (a0 : Core) (a1 : Int) (a2 : Int) (r : Core),s_l06Shift n a0 a1 a2 = some r → AC Tryz.prog 152 [.rop (Core.avs a0) 0,.int .i64 a1,.int .i64 a2] (.agg (Core.rv r))) ∧
    (∀ (a0 : Core) (a1 : Int) (a2 : Int) (v2012 : (List Int)) (p0_0 : Bool) (r : Core),s_l06Shift_j1 n a0 a1 a2 v2012 p0_0 = some r → posF Tryz.prog Tryz.f152 [1,1,0,1] (.agg (Core.rv r)) ⟨[(0,.rop [.int .i64 a0.kind,.int .i64 a0.value,.ro (List.map i64D a0.data),.ro (List.map Core.ds a0.kids)] 0),(1,.int .i64 a1),(2,.int .i64 a2),(6,.box 1000000500 0),(7,.box 1000000501 0),(35,.bool p0_0)],[(1000000000,some ⟨List.map i64D v2012,some 1,0,false⟩)],[(1000000500,some [.int .i64 0,.int .i64 0,.nils,.nils]),(1000000501,some [.int .i64 a0.kind,.int .i64 a0.value,.own 1000000000,.nils])]⟩) ∧
    (∀ (a0 : Core) (a1 : Int) (a2 : Int) (v2012 : (List Int)) (p1_0 : Int) (r : Core),s_l06Shift_j2 n a0 a1 a2 v2012 p1_0 = some r → posF Tryz.prog Tryz.f152 [1,1,1] (.agg (Core.rv r)) ⟨[(0,.rop [.int .i64 a0.kind,.int .i64 a0.value,.ro (List.map i64D a0.data),.ro (List.map Core.ds a0.kids)] 0),(1,.int .i64 a1),(2,.int .i64 a2),(6,.box 1000001500 0),(7,.box 1000001501 0)],[(1000001000,some ⟨List.map i64D v2012,some 1,0,false⟩)],[(1000001500,some [.int .i64 0,.int .i64 0,.nils,.nils]),(1000001501,some [.int .i64 a0.kind,.int .i64 p1_0,.own 1000001000,.nils])]⟩) ∧
    (∀ (a0 : Core) (a1 : Int) (a2 : Int) (p1_0 : Int) (v2012 : (List Int)) (p3_0 : List Core) (p3_1 : Int) (r : Core),s_l06Shift_l4 n a0 a1 a2 p1_0 v2012 p3_0 p3_1 = some r → posF Tryz.prog Tryz.f152 [1,1,1,0,1,0] (.agg (Core.rv r)) ⟨[(0,.rop [.int .i64 a0.kind,.int .i64 a0.value,.ro (List.map i64D a0.data),.ro (List.map Core.ds a0.kids)] 0),(1,.int .i64 a1),(2,.int .i64 a2),(6,.box 1000003500 0),(7,.box 1000003501 0),(8,.int .i64 p3_1)],[(1000003000,some ⟨List.map i64D v2012,some 1,0,false⟩),(1000003001,some ⟨List.map Core.ds p3_0,some 4,0,false⟩)],[(1000003500,some [.int .i64 0,.int .i64 0,.nils,.nils]),(1000003501,some [.int .i64 a0.kind,.int .i64 p1_0,.own 1000003000,.own 1000003001])]⟩) := by
 induction n with
 | zero => exact ⟨(fun _ _ _ _ h => by rw [s_l06Shift] at h; cases h),(fun _ _ _ _ _ _ h => by rw [s_l06Shift_j1] at h; cases h),(fun _ _ _ _ _ _ h => by rw [s_l06Shift_j2] at h; cases h),(fun _ _ _ _ _ _ _ _ h => by rw [s_l06Shift_l4] at h; cases h)⟩
 | succ n ih =>
  obtain ⟨ih0,ih1,ih2,ih3⟩ := ih
  refine ⟨?_,?_,?_,?_⟩
  ·intro a0 a1 a2 r h
   rw [s_l06Shift] at h
   refine ac_fn mixed Tryz.func152 rfl rfl rfl (by kernel_rfl) (by kernel_rfl) ?_
   try simp only [go_sem]
   refine draw_i [false,false,false,false,false,false,false,false,false,false,false,false,false,false,false,true] (Tr.sq [15] .fin) (by kernel_rfl) ?_
   try simp only [go_sem]
   replace h := bindE h
   obtain ⟨v2012,hv2012,h⟩ := h
   refine call_i (s_l00Own_ok _ _ hv2012) ?_
   try simp only [go_sem]
   refine seq_go ?_
   try simp only [go_sem]
   refine cond_i (fun hb1 => ?_) (fun hb1 => ?_)
   ·replace h := ifT (c := (decide (a0.kind = 1))) hb1 h
    try simp only [go_sem]
    have hj := posF_to rfl rfl (ih1 a0 a1 a2 v2012 (decide (a2 ≤ a0.value)) _ h)
    refine seq_to hj (.one ⟨_,.done _,[(1000000000,32192)],[(1000000500,1000),(1000000501,2014)],?_⟩)
    clear hj
    try simp only [go_sem]
   ·replace h := ifF (c := (decide (a0.kind = 1))) hb1 h
    try simp only [go_sem]
    have hj := posF_to rfl rfl (ih1 a0 a1 a2 v2012 false _ h)
    refine seq_to hj (.one ⟨_,.done _,[(1000000000,32192)],[(1000000500,1000),(1000000501,2014)],?_⟩)
    clear hj
    try simp only [go_sem]
  ·intro a0 a1 a2 v2012 p0_0 r h
   rw [s_l06Shift_j1] at h
   refine posF_of rfl rfl ?_
   try simp only [go_sem]
   refine cond_i (fun hb2 => ?_) (fun hb2 => ?_)
   ·replace h := ifT (c := p0_0) hb2 h
    try simp only [go_sem]
    have hj := posF_to rfl rfl (ih2 a0 a1 a2 v2012 (IntKind.i64.wrap (a0.value + a1)) _ h)
    refine seq_to hj (.one ⟨_,.done _,[(1000001000,1000000000)],[(1000001500,1000000500),(1000001501,1000000501)],?_⟩)
    clear hj
    try simp only [go_sem]
   ·replace h := ifF (c := p0_0) hb2 h
    try simp only [go_sem]
    have hj := posF_to rfl rfl (ih2 a0 a1 a2 v2012 a0.value _ h)
    refine seq_to hj (.one ⟨_,.done _,[(1000001000,1000000000)],[(1000001500,1000000500),(1000001501,1000000501)],?_⟩)
    clear hj
    try simp only [go_sem]
  ·intro a0 a1 a2 v2012 p1_0 r h
   rw [s_l06Shift_j2] at h
   refine posF_of rfl rfl ?_
   try simp only [go_sem]
   have hj := posF_to rfl rfl (ih3 a0 a1 a2 p1_0 v2012 [] 0 _ h)
   refine loop_to hj (.one ⟨_,.cell 1000001501 3 2000000000 (some 4) false _ (by simp only [go_sem]; rfl) (by rfl) (by simp only [go_sem]) (.done _),[(1000003000,1000001000),(1000003001,2000000000)],[(1000003500,1000001500),(1000003501,1000001501)],?_⟩)
   clear hj
   simp only [go_sem]
   all_goals try rfl
  ·intro a0 a1 a2 p1_0 v2012 p3_0 p3_1 r h
   rw [s_l06Shift_l4] at h
   refine posF_of rfl rfl ?_
   try simp only [go_sem]
   refine loop_i ?_
   try simp only [go_sem]
   refine cond_i (fun hb3 => ?_) (fun hb3 => ?_)
   ·replace h := ifT (c := (decide (p3_1 < ((List.length a0.kids : Nat) : Int)))) hb3 h
    try simp only [go_sem]
    refine seq_go ?_
    try simp only [go_sem]
    refine draw_i [false,false,false,false,false,false,false,false,false,false,false,false,false,false,false,false,true,true,true] (Tr.sq [16,17,18] .fin) (by kernel_rfl) ?_
    try simp only [go_sem]
    replace h := bindE h
    obtain ⟨v8007,hv8007,h⟩ := h
    refine idx_m hv8007 (Core.ds_len _) ?_
    try simp only [go_sem]
    replace h := bindE h
    obtain ⟨v8012,hv8012,h⟩ := h
    refine call_i (s_l06Binds_ok _ _ _ hv8012) ?_
    try simp only [go_sem]
    replace h := bindE h
    obtain ⟨v8014,hv8014,h⟩ := h
    refine call_i (ih0 _ _ _ _ hv8014) ?_
    try simp only [go_sem]
    replace h := bindE h
    obtain ⟨v8016,hv8016,h⟩ := h
    have hq_ := app_some hv8016
    obtain ⟨hv8016a,hv8016b⟩ := hq_
    refine zed_i false ?_
    try simp only [go_sem]
    refine and_i (by refine ⟨?_,?_⟩ <;> (try simp only [List.length_map,List.length_append,List.length_cons,List.length_nil] at *) <;> (try unfold maxLen) <;> omega) ?_
    try simp only [go_sem]
    refine row_i (List.map Core.ds v8016) (by rw [← hv8016b]; simp only [List.map_append,List.map_cons,List.map_nil,List.nil_append,List.append_nil,go_sem,Core.ds_eq]) ?_
    try simp only [go_sem]
    refine seq_go ?_
    try simp only [go_sem]
    have hj := posF_to rfl rfl (ih3 a0 a1 a2 p1_0 v2012 v8016 (IntKind.i64.wrap (p3_1 + 1)) _ h)
    refine lp_to hj (.one ⟨_,.done _,[(1000003000,1000003000),(1000003001,128256)],[(1000003500,1000003500),(1000003501,1000003501)],?_⟩)
    clear hj
    try simp only [go_sem]
   ·replace h := ifF (c := (decide (p3_1 < ((List.length a0.kids : Nat) : Int)))) hb3 h
    try simp only [go_sem]
    refine seq_go ?_
    try simp only [go_sem]
    cases h
    simp only [go_sem]
theorem s_l06Shift_ok (n : Nat) : (∀ (a0 : Core) (a1 : Int) (a2 : Int) (r : Core),s_l06Shift n a0 a1 a2 = some r → AC Tryz.prog 152 [.rop (Core.avs a0) 0,.int .i64 a1,.int .i64 a2] (.agg (Core.rv r))) := (s_l06Shift_all n).1
theorem s_l06Put_all (n : Nat) : (∀ (a0 : Core) (a1 : Core) (a2 : Int) (r : Core),s_l06Put n a0 a1 a2 = some r → AC Tryz.prog 272 [.rop (Core.avs a0) 0,.rop (Core.avs a1) 0,.int .i64 a2] (.agg (Core.rv r))) ∧
    (∀ (a0 : Core) (a1 : Core) (a2 : Int) (v9012 : (List Int)) (p1_0 : List Core) (p1_1 : Int) (r : Core),s_l06Put_l2 n a0 a1 a2 v9012 p1_0 p1_1 = some r → posF Tryz.prog Tryz.f272 [1,1,1,0,1,0] (.agg (Core.rv r)) ⟨[(0,.rop [.int .i64 a0.kind,.int .i64 a0.value,.ro (List.map i64D a0.data),.ro (List.map Core.ds a0.kids)] 0),(1,.rop [.int .i64 a1.kind,.int .i64 a1.value,.ro (List.map i64D a1.data),.ro (List.map Core.ds a1.kids)] 0),(2,.int .i64 a2),(6,.box 1000001500 0),(8,.box 1000001501 0),(9,.int .i64 p1_1)],[(1000001000,some ⟨List.map i64D v9012,some 1,0,false⟩),(1000001001,some ⟨List.map Core.ds p1_0,some 4,0,false⟩)],[(1000001500,some [.int .i64 0,.int .i64 0,.nils,.nils]),(1000001501,some [.int .i64 a0.kind,.int .i64 a0.value,.own 1000001000,.own 1000001001])]⟩) := by
 induction n with
 | zero => exact ⟨(fun _ _ _ _ h => by rw [s_l06Put] at h; cases h),(fun _ _ _ _ _ _ _ h => by rw [s_l06Put_l2] at h; cases h)⟩
 | succ n ih =>
  obtain ⟨ih0,ih1⟩ := ih
  refine ⟨?_,?_⟩
  ·intro a0 a1 a2 r h
   rw [s_l06Put] at h
   refine ac_fn mixed Tryz.func272 rfl rfl rfl (by kernel_rfl) (by kernel_rfl) ?_
   try simp only [go_sem]
   refine cond_i (fun hb1 => ?_) (fun hb1 => ?_)
   ·replace h := ifT (c := (decide (a0.kind = 1))) hb1 h
    try simp only [go_sem]
    refine cond_i (fun hb2 => ?_) (fun hb2 => ?_)
    ·replace h := ifT (c := (decide (a0.value = a2))) hb2 h
     try simp only [go_sem]
     replace h := bindE h
     obtain ⟨v4002,hv4002,h⟩ := h
     refine call_i (s_l06Shift_ok fuel _ _ _ _ hv4002) ?_
     try simp only [go_sem]
     refine seq_go ?_
     try simp only [go_sem]
     cases h
     simp only [go_sem]
    ·replace h := ifF (c := (decide (a0.value = a2))) hb2 h
     try simp only [go_sem]
     refine seq_go ?_
     try simp only [go_sem]
     refine cond_i (fun hb3 => ?_) (fun hb3 => ?_)
     ·replace h := ifT (c := (decide (a2 < a0.value))) hb3 h
      try simp only [go_sem]
      refine seq_go ?_
      try simp only [go_sem]
      cases h
      simp only [go_sem]
     ·replace h := ifF (c := (decide (a2 < a0.value))) hb3 h
      try simp only [go_sem]
      refine seq_go ?_
      try simp only [go_sem]
      cases h
      simp only [go_sem]
   ·replace h := ifF (c := (decide (a0.kind = 1))) hb1 h
    try simp only [go_sem]
    refine seq_go ?_
    try simp only [go_sem]
    refine draw_i [false,false,false,false,false,false,false,false,false,false,false,false,false,false,false,true] (Tr.sq [15] .fin) (by kernel_rfl) ?_
    try simp only [go_sem]
    replace h := bindE h
    obtain ⟨v9012,hv9012,h⟩ := h
    refine call_i (s_l00Own_ok _ _ hv9012) ?_
    try simp only [go_sem]
    refine seq_go ?_
    try simp only [go_sem]
    have hj := posF_to rfl rfl (ih1 a0 a1 a2 v9012 [] 0 _ h)
    refine loop_to hj (.one ⟨_,.cell 9014 3 2000000000 (some 4) false _ (by simp only [go_sem]; rfl) (by rfl) (by simp only [go_sem]) (.done _),[(1000001000,144192),(1000001001,2000000000)],[(1000001500,1000),(1000001501,9014)],?_⟩)
    clear hj
    simp only [go_sem]
    all_goals try rfl
  ·intro a0 a1 a2 v9012 p1_0 p1_1 r h
   rw [s_l06Put_l2] at h
   refine posF_of rfl rfl ?_
   try simp only [go_sem]
   refine loop_i ?_
   try simp only [go_sem]
   refine cond_i (fun hb4 => ?_) (fun hb4 => ?_)
   ·replace h := ifT (c := (decide (p1_1 < ((List.length a0.kids : Nat) : Int)))) hb4 h
    try simp only [go_sem]
    refine seq_go ?_
    try simp only [go_sem]
    refine draw_i [false,false,false,false,false,false,false,false,false,false,false,false,false,false,false,false,true,true,true] (Tr.sq [16,17,18] .fin) (by kernel_rfl) ?_
    try simp only [go_sem]
    replace h := bindE h
    obtain ⟨v13007,hv13007,h⟩ := h
    refine idx_m hv13007 (Core.ds_len _) ?_
    try simp only [go_sem]
    replace h := bindE h
    obtain ⟨v13012,hv13012,h⟩ := h
    refine call_i (s_l06Binds_ok _ _ _ hv13012) ?_
    try simp only [go_sem]
    replace h := bindE h
    obtain ⟨v13014,hv13014,h⟩ := h
    refine call_i (ih0 _ _ _ _ hv13014) ?_
    try simp only [go_sem]
    replace h := bindE h
    obtain ⟨v13016,hv13016,h⟩ := h
    have hq_ := app_some hv13016
    obtain ⟨hv13016a,hv13016b⟩ := hq_
    refine zed_i false ?_
    try simp only [go_sem]
    refine and_i (by refine ⟨?_,?_⟩ <;> (try simp only [List.length_map,List.length_append,List.length_cons,List.length_nil] at *) <;> (try unfold maxLen) <;> omega) ?_
    try simp only [go_sem]
    refine row_i (List.map Core.ds v13016) (by rw [← hv13016b]; simp only [List.map_append,List.map_cons,List.map_nil,List.nil_append,List.append_nil,go_sem,Core.ds_eq]) ?_
    try simp only [go_sem]
    refine seq_go ?_
    try simp only [go_sem]
    have hj := posF_to rfl rfl (ih1 a0 a1 a2 v9012 v13016 (IntKind.i64.wrap (p1_1 + 1)) _ h)
    refine lp_to hj (.one ⟨_,.done _,[(1000001000,1000001000),(1000001001,208256)],[(1000001500,1000001500),(1000001501,1000001501)],?_⟩)
    clear hj
    try simp only [go_sem]
   ·replace h := ifF (c := (decide (p1_1 < ((List.length a0.kids : Nat) : Int)))) hb4 h
    try simp only [go_sem]
    refine seq_go ?_
    try simp only [go_sem]
    cases h
    simp only [go_sem]
theorem s_l06Put_ok (n : Nat) : (∀ (a0 : Core) (a1 : Core) (a2 : Int) (r : Core),s_l06Put n a0 a1 a2 = some r → AC Tryz.prog 272 [.rop (Core.avs a0) 0,.rop (Core.avs a1) 0,.int .i64 a2] (.agg (Core.rv r))) := (s_l06Put_all n).1
theorem s_l00Max_ok (a0 : Int) (a1 : Int) (r : Int) (h : s_l00Max a0 a1 = some r) : AC Tryz.prog 389 [.int .i64 a0,.int .i64 a1] (.int .i64 r) := by
 unfold s_l00Max at h
 refine ac_fn mixed Tryz.func389 rfl rfl rfl (by kernel_rfl) (by kernel_rfl) ?_
 try simp only [go_sem]
 refine cond_i (fun hb1 => ?_) (fun hb1 => ?_)
 ·replace h := ifT (c := (decide (a1 < a0))) hb1 h
  try simp only [go_sem]
  cases h
  simp only [go_sem]
 ·replace h := ifF (c := (decide (a1 < a0))) hb1 h
  try simp only [go_sem]
  refine seq_go ?_
  try simp only [go_sem]
  cases h
  simp only [go_sem]
theorem s_l06Depth_all (n : Nat) : (∀ (a0 : Core) (r : Int),s_l06Depth n a0 = some r → AC Tryz.prog 273 [.rop (Core.avs a0) 0] (.int .i64 r)) ∧
    (∀ (a0 : Core) (p0_0 : Int) (p0_1 : Int) (r : Int),s_l06Depth_l1 n a0 p0_0 p0_1 = some r → posF Tryz.prog Tryz.f273 [1,1,0,1,0] (.int .i64 r) ⟨[(0,.rop [.int .i64 a0.kind,.int .i64 a0.value,.ro (List.map i64D a0.data),.ro (List.map Core.ds a0.kids)] 0),(3,.int .i64 p0_0),(4,.int .i64 p0_1)],[],[]⟩) := by
 induction n with
 | zero => exact ⟨(fun _ _ h => by rw [s_l06Depth] at h; cases h),(fun _ _ _ _ h => by rw [s_l06Depth_l1] at h; cases h)⟩
 | succ n ih =>
  obtain ⟨ih0,ih1⟩ := ih
  refine ⟨?_,?_⟩
  ·intro a0 r h
   rw [s_l06Depth] at h
   refine ac_fn mixed Tryz.func273 rfl rfl rfl (by kernel_rfl) (by kernel_rfl) ?_
   try simp only [go_sem]
   have hj := posF_to rfl rfl (ih1 a0 0 0 _ h)
   refine loop_to hj (.one ⟨_,.done _,[],[],?_⟩)
   clear hj
   try simp only [go_sem]
  ·intro a0 p0_0 p0_1 r h
   rw [s_l06Depth_l1] at h
   refine posF_of rfl rfl ?_
   try simp only [go_sem]
   refine loop_i ?_
   try simp only [go_sem]
   refine cond_i (fun hb1 => ?_) (fun hb1 => ?_)
   ·replace h := ifT (c := (decide (p0_1 < ((List.length a0.kids : Nat) : Int)))) hb1 h
    try simp only [go_sem]
    refine seq_go ?_
    try simp only [go_sem]
    replace h := bindE h
    obtain ⟨v6006,hv6006,h⟩ := h
    refine idx_m hv6006 (Core.ds_len _) ?_
    try simp only [go_sem]
    replace h := bindE h
    obtain ⟨v6007,hv6007,h⟩ := h
    refine call_i (ih0 _ _ hv6007) ?_
    try simp only [go_sem]
    replace h := bindE h
    obtain ⟨v6008,hv6008,h⟩ := h
    refine call_i (s_l00Max_ok _ _ _ hv6008) ?_
    try simp only [go_sem]
    refine seq_go ?_
    try simp only [go_sem]
    have hj := posF_to rfl rfl (ih1 a0 v6008 (IntKind.i64.wrap (p0_1 + 1)) _ h)
    refine lp_to hj (.one ⟨_,.done _,[],[],?_⟩)
    clear hj
    try simp only [go_sem]
   ·replace h := ifF (c := (decide (p0_1 < ((List.length a0.kids : Nat) : Int)))) hb1 h
    try simp only [go_sem]
    refine seq_go ?_
    try simp only [go_sem]
    cases h
    simp only [go_sem]
theorem s_l06Depth_ok (n : Nat) : (∀ (a0 : Core) (r : Int),s_l06Depth n a0 = some r → AC Tryz.prog 273 [.rop (Core.avs a0) 0] (.int .i64 r)) := (s_l06Depth_all n).1
theorem s_l06Highest_all (n : Nat) : (∀ (a0 : Core) (r : Int),s_l06Highest n a0 = some r → AC Tryz.prog 274 [.rop (Core.avs a0) 0] (.int .i64 r)) ∧
    (∀ (a0 : Core) (p0_0 : Int) (r : Int),s_l06Highest_j1 n a0 p0_0 = some r → posF Tryz.prog Tryz.f274 [1,1,1] (.int .i64 r) ⟨[(0,.rop [.int .i64 a0.kind,.int .i64 a0.value,.ro (List.map i64D a0.data),.ro (List.map Core.ds a0.kids)] 0),(3,.int .i64 p0_0)],[],[]⟩) ∧
    (∀ (a0 : Core) (p1_0 : Int) (p1_1 : Int) (r : Int),s_l06Highest_l2 n a0 p1_0 p1_1 = some r → posF Tryz.prog Tryz.f274 [1,1,1,0,1,0] (.int .i64 r) ⟨[(0,.rop [.int .i64 a0.kind,.int .i64 a0.value,.ro (List.map i64D a0.data),.ro (List.map Core.ds a0.kids)] 0),(3,.int .i64 p1_0),(4,.int .i64 p1_1)],[],[]⟩) := by
 induction n with
 | zero => exact ⟨(fun _ _ h => by rw [s_l06Highest] at h; cases h),(fun _ _ _ h => by rw [s_l06Highest_j1] at h; cases h),(fun _ _ _ _ h => by rw [s_l06Highest_l2] at h; cases h)⟩
 | succ n ih =>
  obtain ⟨ih0,ih1,ih2⟩ := ih
  refine ⟨?_,?_,?_⟩
  ·intro a0 r h
   rw [s_l06Highest] at h
   refine ac_fn mixed Tryz.func274 rfl rfl rfl (by kernel_rfl) (by kernel_rfl) ?_
   try simp only [go_sem]
   refine cond_i (fun hb1 => ?_) (fun hb1 => ?_)
   ·replace h := ifT (c := (decide (a0.kind = 1))) hb1 h
    try simp only [go_sem]
    have hj := posF_to rfl rfl (ih1 a0 a0.value _ h)
    refine seq_to hj (.one ⟨_,.done _,[],[],?_⟩)
    clear hj
    try simp only [go_sem]
   ·replace h := ifF (c := (decide (a0.kind = 1))) hb1 h
    try simp only [go_sem]
    have hj := posF_to rfl rfl (ih1 a0 (-1) _ h)
    refine seq_to hj (.one ⟨_,.done _,[],[],?_⟩)
    clear hj
    try simp only [go_sem]
  ·intro a0 p0_0 r h
   rw [s_l06Highest_j1] at h
   refine posF_of rfl rfl ?_
   try simp only [go_sem]
   have hj := posF_to rfl rfl (ih2 a0 p0_0 0 _ h)
   refine loop_to hj (.one ⟨_,.done _,[],[],?_⟩)
   clear hj
   try simp only [go_sem]
  ·intro a0 p1_0 p1_1 r h
   rw [s_l06Highest_l2] at h
   refine posF_of rfl rfl ?_
   try simp only [go_sem]
   refine loop_i ?_
   try simp only [go_sem]
   refine cond_i (fun hb2 => ?_) (fun hb2 => ?_)
   ·replace h := ifT (c := (decide (p1_1 < ((List.length a0.kids : Nat) : Int)))) hb2 h
    try simp only [go_sem]
    refine seq_go ?_
    try simp only [go_sem]
    replace h := bindE h
    obtain ⟨v8006,hv8006,h⟩ := h
    refine idx_m hv8006 (Core.ds_len _) ?_
    try simp only [go_sem]
    replace h := bindE h
    obtain ⟨v8007,hv8007,h⟩ := h
    refine call_i (ih0 _ _ hv8007) ?_
    try simp only [go_sem]
    replace h := bindE h
    obtain ⟨v8008,hv8008,h⟩ := h
    refine call_i (s_l00Max_ok _ _ _ hv8008) ?_
    try simp only [go_sem]
    refine seq_go ?_
    try simp only [go_sem]
    have hj := posF_to rfl rfl (ih2 a0 v8008 (IntKind.i64.wrap (p1_1 + 1)) _ h)
    refine lp_to hj (.one ⟨_,.done _,[],[],?_⟩)
    clear hj
    try simp only [go_sem]
   ·replace h := ifF (c := (decide (p1_1 < ((List.length a0.kids : Nat) : Int)))) hb2 h
    try simp only [go_sem]
    refine seq_go ?_
    try simp only [go_sem]
    cases h
    simp only [go_sem]
theorem s_l06Highest_ok (n : Nat) : (∀ (a0 : Core) (r : Int),s_l06Highest n a0 = some r → AC Tryz.prog 274 [.rop (Core.avs a0) 0] (.int .i64 r)) := (s_l06Highest_all n).1
theorem s_l06Instance_ok (a0 : Core) (a1 : Core) (r : Core × Int) (h : s_l06Instance a0 a1 = some r) : AC Tryz.prog 146 [.rop (Core.avs a0) 0,.rop (Core.avs a1) 0] (.tup [.agg (Core.rv r.1),.int .i64 r.2]) := by
 unfold s_l06Instance at h
 refine ac_fn mixed Tryz.func146 rfl rfl rfl (by kernel_rfl) (by kernel_rfl) ?_
 try simp only [go_sem]
 replace h := bindE h
 obtain ⟨v2001,hv2001,h⟩ := h
 refine call_i (s_l06Count_ok fuel _ _ _ hv2001) ?_
 try simp only [go_sem]
 refine seq_go ?_
 try simp only [go_sem]
 replace h := bindE h
 obtain ⟨v3001,hv3001,h⟩ := h
 refine call_i (s_l06Nodes_ok fuel _ _ _ _ hv3001) ?_
 try simp only [go_sem]
 replace h := bindE h
 obtain ⟨v3004,hv3004,h⟩ := h
 refine call_i (s_l06Nodes_ok fuel _ _ _ _ hv3004) ?_
 try simp only [go_sem]
 refine seq_go ?_
 try simp only [go_sem]
 refine cond_i (fun hb1 => ?_) (fun hb1 => ?_)
 ·replace h := ifT (c := (decide (400 < (IntKind.i64.wrap (v3001 + (IntKind.i64.wrap (v2001 * (IntKind.i64.wrap (v3004 - 1))))))))) hb1 h
  try simp only [go_sem]
  cases h
  simp only [go_sem]
 ·replace h := ifF (c := (decide (400 < (IntKind.i64.wrap (v3001 + (IntKind.i64.wrap (v2001 * (IntKind.i64.wrap (v3004 - 1))))))))) hb1 h
  try simp only [go_sem]
  refine seq_go ?_
  try simp only [go_sem]
  replace h := bindE h
  obtain ⟨v5002,hv5002,h⟩ := h
  refine call_i (s_l06Put_ok fuel _ _ _ _ hv5002) ?_
  try simp only [go_sem]
  refine seq_go ?_
  try simp only [go_sem]
  replace h := bindE h
  obtain ⟨v6000,hv6000,h⟩ := h
  refine call_i (s_l06Depth_ok fuel _ _ hv6000) ?_
  try simp only [go_sem]
  refine seq_go ?_
  try simp only [go_sem]
  refine cond_i (fun hb2 => ?_) (fun hb2 => ?_)
  ·replace h := ifT (c := (decide (80 < v6000))) hb2 h
   try simp only [go_sem]
   cases h
   simp only [go_sem]
  ·replace h := ifF (c := (decide (80 < v6000))) hb2 h
   try simp only [go_sem]
   refine seq_go ?_
   try simp only [go_sem]
   replace h := bindE h
   obtain ⟨v8000,hv8000,h⟩ := h
   refine call_i (s_l06Highest_ok fuel _ _ hv8000) ?_
   try simp only [go_sem]
   refine seq_go ?_
   try simp only [go_sem]
   refine cond_i (fun hb3 => ?_) (fun hb3 => ?_)
   ·replace h := ifT (c := (decide (255 < v8000))) hb3 h
    try simp only [go_sem]
    cases h
    simp only [go_sem]
   ·replace h := ifF (c := (decide (255 < v8000))) hb3 h
    try simp only [go_sem]
    refine seq_go ?_
    try simp only [go_sem]
    cases h
    simp only [go_sem]
end Go.Proofs.YtjdinbgcgbigoaaGreat.Ab
