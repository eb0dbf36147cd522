/-
 The functions do what their models say. Printed by wip/ab/gen.py.
-/
import Derived.Test.YtjdinbgcgbigoaaGreatModE
import Derived.Test.YtjdinbgcgbigoaaGreatTi2
import Derived.Test.YtjdinbgcgbigoaaGreatWlkI
namespace Go.Proofs.YtjdinbgcgbigoaaGreat.Ab
set_option linter.unusedVariables false
set_option linter.unusedSimpArgs false
set_option maxRecDepth 20000
set_option maxHeartbeats 4000000
open Go.RowKit
theorem s_l08Left_all (n : Nat) : (∀ (a0 : Core) (a1 : Int) (r : Int),s_l08Left n a0 a1 = some r → AC Tryz.prog 279 [.rop (Core.avs a0) 0,.int .i64 a1] (.int .i64 r)) ∧
    (∀ (a0 : Core) (p0_0 : Int) (p0_1 : Int) (r : Int),s_l08Left_l3 n a0 p0_0 p0_1 = some r → posF Tryz.prog Tryz.f279 [1,1,0,1,0] (.int .i64 r) ⟨[(0,.rop [.int .i64 a0.kind,.int .i64 a0.value,.ro (List.map i64D a0.data),.ro (List.map Core.ds a0.kids)] 0),(1,.int .i64 p0_0),(5,.int .i64 p0_1)],[],[]⟩) ∧
    (∀ (a0 : Core) (p0_0 : Int) (p0_1 : Int) (p1_0 : Bool) (r : Int),s_l08Left_j4 n a0 p0_0 p0_1 p1_0 = some r → posF Tryz.prog Tryz.f279 [1,1,0,1,0,0,0,1] (.int .i64 r) ⟨[(0,.rop [.int .i64 a0.kind,.int .i64 a0.value,.ro (List.map i64D a0.data),.ro (List.map Core.ds a0.kids)] 0),(1,.int .i64 p0_0),(5,.int .i64 p0_1),(18,.bool p1_0)],[],[]⟩) := by
 induction n with
 | zero => exact ⟨(fun _ _ _ h => by rw [s_l08Left] at h; cases h),(fun _ _ _ _ h => by rw [s_l08Left_l3] at h; cases h),(fun _ _ _ _ _ h => by rw [s_l08Left_j4] at h; cases h)⟩
 | succ n ih =>
  obtain ⟨ih0,ih1,ih2⟩ := ih
  refine ⟨?_,?_,?_⟩
  ·intro a0 a1 r h
   rw [s_l08Left] at h
   refine ac_fn mixed Tryz.func279 rfl rfl rfl (by kernel_rfl) (by kernel_rfl) ?_
   try simp only [go_sem]
   have hj := posF_to rfl rfl (ih1 a0 (IntKind.i64.wrap (a1 - 1)) 0 _ h)
   refine loop_to hj (.one ⟨_,.done _,[],[],?_⟩)
   clear hj
   try simp only [go_sem]
  ·intro a0 p0_0 p0_1 r h
   rw [s_l08Left_l3] at h
   refine posF_of rfl rfl ?_
   try simp only [go_sem]
   refine loop_i ?_
   try simp only [go_sem]
   refine cond_i (fun hb1 => ?_) (fun hb1 => ?_)
   ·replace h := ifT (c := (decide (p0_1 < ((List.length a0.kids : Nat) : Int)))) hb1 h
    try simp only [go_sem]
    have hj := posF_to rfl rfl (ih2 a0 p0_0 p0_1 (decide (0 ≤ p0_0)) _ h)
    refine seq_to hj (.one ⟨_,.done _,[],[],?_⟩)
    clear hj
    try simp only [go_sem]
   ·replace h := ifF (c := (decide (p0_1 < ((List.length a0.kids : Nat) : Int)))) hb1 h
    try simp only [go_sem]
    have hj := posF_to rfl rfl (ih2 a0 p0_0 p0_1 false _ h)
    refine seq_to hj (.one ⟨_,.done _,[],[],?_⟩)
    clear hj
    try simp only [go_sem]
  ·intro a0 p0_0 p0_1 p1_0 r h
   rw [s_l08Left_j4] at h
   refine posF_of rfl rfl ?_
   try simp only [go_sem]
   refine cond_i (fun hb2 => ?_) (fun hb2 => ?_)
   ·replace h := ifT (c := p1_0) hb2 h
    try simp only [go_sem]
    refine seq_go ?_
    try simp only [go_sem]
    replace h := bindE h
    obtain ⟨v6005,hv6005,h⟩ := h
    refine idx_m hv6005 (Core.ds_len _) ?_
    try simp only [go_sem]
    replace h := bindE h
    obtain ⟨v6007,hv6007,h⟩ := h
    refine call_i (ih0 _ _ _ hv6007) ?_
    try simp only [go_sem]
    refine seq_go ?_
    try simp only [go_sem]
    have hj := posF_to rfl rfl (ih1 a0 v6007 (IntKind.i64.wrap (p0_1 + 1)) _ h)
    refine lp_to hj (.one ⟨_,.done _,[],[],?_⟩)
    clear hj
    try simp only [go_sem]
   ·replace h := ifF (c := p1_0) hb2 h
    try simp only [go_sem]
    refine seq_go ?_
    try simp only [go_sem]
    cases h
    simp only [go_sem]
theorem s_l08Left_ok (n : Nat) : (∀ (a0 : Core) (a1 : Int) (r : Int),s_l08Left n a0 a1 = some r → AC Tryz.prog 279 [.rop (Core.avs a0) 0,.int .i64 a1] (.int .i64 r)) := (s_l08Left_all n).1
theorem s_l08Fits_ok (a0 : Core) (r : Bool) (h : s_l08Fits a0 = some r) : AC Tryz.prog 151 [.rop (Core.avs a0) 0] (.bool r) := by
 unfold s_l08Fits at h
 refine ac_fn mixed Tryz.func151 rfl rfl rfl (by kernel_rfl) (by kernel_rfl) ?_
 try simp only [go_sem]
 replace h := bindE h
 obtain ⟨v2001,hv2001,h⟩ := h
 refine call_i (s_l08Left_ok fuel _ _ _ hv2001) ?_
 try simp only [go_sem]
 refine cond_i (fun hb1 => ?_) (fun hb1 => ?_)
 ·replace h := ifT (c := (decide (0 ≤ v2001))) hb1 h
  try simp only [go_sem]
  replace h := bindE h
  obtain ⟨v2005,hv2005,h⟩ := h
  refine call_i (s_l06Depth_ok fuel _ _ hv2005) ?_
  try simp only [go_sem]
  refine seq_go ?_
  try simp only [go_sem]
  cases h
  simp only [go_sem]
 ·replace h := ifF (c := (decide (0 ≤ v2001))) hb1 h
  try simp only [go_sem]
  refine seq_go ?_
  try simp only [go_sem]
  cases h
  simp only [go_sem]
end Go.Proofs.YtjdinbgcgbigoaaGreat.Ab
