/-
 The functions do what their models say. Printed by wip/ab/gen.py.
-/
import Derived.Test.YtjdinbgcgbigoaaGreatModD
import Derived.Test.YtjdinbgcgbigoaaGreatTi2
import Derived.Test.YtjdinbgcgbigoaaGreatWlkE
namespace Go.Proofs.YtjdinbgcgbigoaaGreat.Ab
set_option linter.unusedVariables false
set_option linter.unusedSimpArgs false
set_option maxRecDepth 20000
set_option maxHeartbeats 4000000
open Go.RowKit
theorem l_markBook_ok (a0 : Book) (a1 : Int) (z1 : Option Nat) (r : Int × (List Core)) (h : l_markBook a0 a1 = some r) : AG Tryz.prog 19 [.agg [.own 1],.int .i64 a1] [(1,⟨List.map Core.ds a0.defs,z1,0,false⟩)] [] (.int .i64 r.1) [(1,⟨List.map Core.ds r.2,z1,0,false⟩)] [] := by
 unfold l_markBook at h
 refine ag_fn mixed Tryz.func19 rfl rfl rfl (by kernel_rfl) (by kernel_rfl) ?_
 try simp only [go_sem]
 replace h := bindE h
 obtain ⟨v2003,hv2003,h⟩ := h
 refine call_g ⟨[],[(1,1)],[],[],[],true⟩ (by kernel_rfl) (l_markCoreS_ok fuel _ _ z1 _ hv2003) (by kernel_rfl) ?_
 try simp only [go_sem]
 refine seq_go ?_
 try simp only [go_sem]
 cases h
 refine ret_i (.done _) [(1,1)] [] ?_
 simp only [go_sem]
theorem s_l06Erased_all (n : Nat) : (∀ (a0 : Core) (r : Bool),s_l06Erased n a0 = some r → AC Tryz.prog 143 [.rop (Core.avs a0) 0] (.bool r)) ∧
    (∀ (a0 : Core) (p0_0 : Bool) (r : Bool),s_l06Erased_j1 n a0 p0_0 = some r → posF Tryz.prog Tryz.f143 [1,0,1] (.bool r) ⟨[(0,.rop [.int .i64 a0.kind,.int .i64 a0.value,.ro (List.map i64D a0.data),.ro (List.map Core.ds a0.kids)] 0),(15,.bool p0_0)],[],[]⟩) ∧
    (∀ (a0 : Core) (p1_0 : Int) (r : Bool),s_l06Erased_l2 n a0 p1_0 = some r → posF Tryz.prog Tryz.f143 [1,1,0,1,0] (.bool r) ⟨[(0,.rop [.int .i64 a0.kind,.int .i64 a0.value,.ro (List.map i64D a0.data),.ro (List.map Core.ds a0.kids)] 0),(3,.int .i64 p1_0)],[],[]⟩) := by
 induction n with
 | zero => exact ⟨(fun _ _ h => by rw [s_l06Erased] at h; cases h),(fun _ _ _ h => by rw [s_l06Erased_j1] at h; cases h),(fun _ _ _ h => by rw [s_l06Erased_l2] at h; cases h)⟩
 | succ n ih =>
  obtain ⟨ih0,ih1,ih2⟩ := ih
  refine ⟨?_,?_,?_⟩
  ·intro a0 r h
   rw [s_l06Erased] at h
   refine ac_fn mixed Tryz.func143 rfl rfl rfl (by kernel_rfl) (by kernel_rfl) ?_
   try simp only [go_sem]
   refine cond_i (fun hb1 => ?_) (fun hb1 => ?_)
   ·replace h := ifT (c := (decide (a0.kind = 6))) hb1 h
    try simp only [go_sem]
    have hj := posF_to rfl rfl (ih1 a0 true _ h)
    refine seq_to hj (.one ⟨_,.done _,[],[],?_⟩)
    clear hj
    try simp only [go_sem]
   ·replace h := ifF (c := (decide (a0.kind = 6))) hb1 h
    try simp only [go_sem]
    have hj := posF_to rfl rfl (ih1 a0 (decide (a0.kind = 7)) _ h)
    refine seq_to hj (.one ⟨_,.done _,[],[],?_⟩)
    clear hj
    try simp only [go_sem]
  ·intro a0 p0_0 r h
   rw [s_l06Erased_j1] at h
   refine posF_of rfl rfl ?_
   try simp only [go_sem]
   refine cond_i (fun hb2 => ?_) (fun hb2 => ?_)
   ·replace h := ifT (c := p0_0) hb2 h
    try simp only [go_sem]
    cases h
    simp only [go_sem]
   ·replace h := ifF (c := p0_0) hb2 h
    try simp only [go_sem]
    refine seq_go ?_
    try simp only [go_sem]
    have hj := posF_to rfl rfl (ih2 a0 0 _ h)
    refine loop_to hj (.one ⟨_,.done _,[],[],?_⟩)
    clear hj
    try simp only [go_sem]
  ·intro a0 p1_0 r h
   rw [s_l06Erased_l2] at h
   refine posF_of rfl rfl ?_
   try simp only [go_sem]
   refine loop_i ?_
   try simp only [go_sem]
   refine cond_i (fun hb3 => ?_) (fun hb3 => ?_)
   ·replace h := ifT (c := (decide (p1_0 < ((List.length a0.kids : Nat) : Int)))) hb3 h
    try simp only [go_sem]
    refine seq_go ?_
    try simp only [go_sem]
    replace h := bindE h
    obtain ⟨v7005,hv7005,h⟩ := h
    refine idx_m hv7005 (Core.ds_len _) ?_
    try simp only [go_sem]
    replace h := bindE h
    obtain ⟨v7006,hv7006,h⟩ := h
    refine call_i (ih0 _ _ hv7006) ?_
    try simp only [go_sem]
    refine seq_go ?_
    try simp only [go_sem]
    refine cond_i (fun hb4 => ?_) (fun hb4 => ?_)
    ·replace h := ifT (c := (!v7006)) hb4 h
     try simp only [go_sem]
     cases h
     simp only [go_sem]
    ·replace h := ifF (c := (!v7006)) hb4 h
     try simp only [go_sem]
     refine seq_go ?_
     try simp only [go_sem]
     have hj := posF_to rfl rfl (ih2 a0 (IntKind.i64.wrap (p1_0 + 1)) _ h)
     refine lp_to hj (.one ⟨_,.done _,[],[],?_⟩)
     clear hj
     try simp only [go_sem]
   ·replace h := ifF (c := (decide (p1_0 < ((List.length a0.kids : Nat) : Int)))) hb3 h
    try simp only [go_sem]
    refine seq_go ?_
    try simp only [go_sem]
    cases h
    simp only [go_sem]
theorem s_l06Erased_ok (n : Nat) : (∀ (a0 : Core) (r : Bool),s_l06Erased n a0 = some r → AC Tryz.prog 143 [.rop (Core.avs a0) 0] (.bool r)) := (s_l06Erased_all n).1
theorem s_l08State_l2_ok (n : Nat) : (∀ (a0 : Book) (p1_0 : Int) (r : Bool),s_l08State_l2 n a0 p1_0 = some r → posF Tryz.prog Tryz.f62 [1,1,0,1,0] (.bool r) ⟨[(0,.rop [.ro (List.map Core.ds a0.defs)] 0),(5,.int .i64 p1_0)],[],[]⟩) := by
 induction n with
 | zero => exact ((fun _ _ _ h => by rw [s_l08State_l2] at h; cases h))
 | succ n ih =>
  have ih0 := ih
  ·intro a0 p1_0 r h
   rw [s_l08State_l2] at h
   refine posF_of rfl rfl ?_
   try simp only [go_sem]
   refine loop_i ?_
   try simp only [go_sem]
   refine cond_i (fun hb5 => ?_) (fun hb5 => ?_)
   ·replace h := ifT (c := (decide (p1_0 < ((List.length a0.defs : Nat) : Int)))) hb5 h
    try simp only [go_sem]
    refine seq_go ?_
    try simp only [go_sem]
    replace h := bindE h
    obtain ⟨v7005,hv7005,h⟩ := h
    refine idx_m hv7005 (Core.ds_len _) ?_
    try simp only [go_sem]
    replace h := bindE h
    obtain ⟨v7006,hv7006,h⟩ := h
    refine call_i (s_l06Erased_ok fuel _ _ hv7006) ?_
    try simp only [go_sem]
    refine seq_go ?_
    try simp only [go_sem]
    refine cond_i (fun hb6 => ?_) (fun hb6 => ?_)
    ·replace h := ifT (c := (!v7006)) hb6 h
     try simp only [go_sem]
     cases h
     simp only [go_sem]
    ·replace h := ifF (c := (!v7006)) hb6 h
     try simp only [go_sem]
     refine seq_go ?_
     try simp only [go_sem]
     have hj := posF_to rfl rfl (ih0 a0 (IntKind.i64.wrap (p1_0 + 1)) _ h)
     refine lp_to hj (.one ⟨_,.done _,[],[],?_⟩)
     clear hj
     try simp only [go_sem]
   ·replace h := ifF (c := (decide (p1_0 < ((List.length a0.defs : Nat) : Int)))) hb5 h
    try simp only [go_sem]
    refine seq_go ?_
    try simp only [go_sem]
    cases h
    simp only [go_sem]
theorem s_l08State_j1_ok (a0 : Book) (p0_0 : Bool) (r : Bool) (h : s_l08State_j1 a0 p0_0 = some r) : posF Tryz.prog Tryz.f62 [1,0,1] (.bool r) ⟨[(0,.rop [.ro (List.map Core.ds a0.defs)] 0),(28,.bool p0_0)],[],[]⟩ := by
 unfold s_l08State_j1 at h
 refine posF_of rfl rfl ?_
 try simp only [go_sem]
 refine cond_i (fun hb4 => ?_) (fun hb4 => ?_)
 ·replace h := ifT (c := p0_0) hb4 h
  try simp only [go_sem]
  cases h
  simp only [go_sem]
 ·replace h := ifF (c := p0_0) hb4 h
  try simp only [go_sem]
  refine seq_go ?_
  try simp only [go_sem]
  have hj := posF_to rfl rfl (s_l08State_l2_ok fuel a0 0 _ h)
  refine loop_to hj (.one ⟨_,.done _,[],[],?_⟩)
  clear hj
  try simp only [go_sem]
theorem s_l08State_ok (a0 : Book) (a1 : Core) (r : Bool) (h : s_l08State a0 a1 = some r) : AC Tryz.prog 62 [.rop (Book.avs a0) 0,.rop (Core.avs a1) 0] (.bool r) := by
 unfold s_l08State at h
 refine ac_fn mixed Tryz.func62 rfl rfl rfl (by kernel_rfl) (by kernel_rfl) ?_
 try simp only [go_sem]
 replace h := bindE h
 obtain ⟨v2001,hv2001,h⟩ := h
 refine call_i (s_l06Book_ok _ _ hv2001) ?_
 try simp only [go_sem]
 refine cond_i (fun hb1 => ?_) (fun hb1 => ?_)
 ·replace h := ifT (c := (!v2001)) hb1 h
  try simp only [go_sem]
  have hj := posF_to rfl rfl (s_l08State_j1_ok a0 true _ h)
  refine seq_to hj (.one ⟨_,.done _,[],[],?_⟩)
  clear hj
  try simp only [go_sem]
 ·replace h := ifF (c := (!v2001)) hb1 h
  try simp only [go_sem]
  replace h := bindE h
  obtain ⟨v2005,hv2005,h⟩ := h
  refine call_i (s_l06Closed_ok _ _ hv2005) ?_
  try simp only [go_sem]
  refine cond_i (fun hb2 => ?_) (fun hb2 => ?_)
  ·replace h := ifT (c := (!v2005)) hb2 h
   try simp only [go_sem]
   have hj := posF_to rfl rfl (s_l08State_j1_ok a0 true _ h)
   refine seq_to hj (.one ⟨_,.done _,[],[],?_⟩)
   clear hj
   try simp only [go_sem]
  ·replace h := ifF (c := (!v2005)) hb2 h
   try simp only [go_sem]
   replace h := bindE h
   obtain ⟨v2010,hv2010,h⟩ := h
   refine call_i (s_l06Erased_ok fuel _ _ hv2010) ?_
   try simp only [go_sem]
   refine cond_i (fun hb3 => ?_) (fun hb3 => ?_)
   ·replace h := ifT (c := (!v2010)) hb3 h
    try simp only [go_sem]
    have hj := posF_to rfl rfl (s_l08State_j1_ok a0 true _ h)
    refine seq_to hj (.one ⟨_,.done _,[],[],?_⟩)
    clear hj
    try simp only [go_sem]
   ·replace h := ifF (c := (!v2010)) hb3 h
    try simp only [go_sem]
    replace h := bindE h
    obtain ⟨v2020,hv2020,h⟩ := h
    refine call_i (s_l06Refs_ok fuel _ _ _ hv2020) ?_
    try simp only [go_sem]
    have hj := posF_to rfl rfl (s_l08State_j1_ok a0 (!v2020) _ h)
    refine seq_to hj (.one ⟨_,.done _,[],[],?_⟩)
    clear hj
    try simp only [go_sem]
theorem s_l08Kind_j1_ok (a0 : Core) (p0_0 : Bool) (r : Int) (h : s_l08Kind_j1 a0 p0_0 = some r) : posF Tryz.prog Tryz.f145 [1,0,1,0,1,1,1,1,1,0,0,1] (.int .i64 r) ⟨[(0,.rop [.int .i64 a0.kind,.int .i64 a0.value,.ro (List.map i64D a0.data),.ro (List.map Core.ds a0.kids)] 0),(73,.bool p0_0)],[],[]⟩ := by
 unfold s_l08Kind_j1 at h
 refine posF_of rfl rfl ?_
 try simp only [go_sem]
 refine cond_i (fun hb14 => ?_) (fun hb14 => ?_)
 ·replace h := ifT (c := p0_0) hb14 h
  try simp only [go_sem]
  cases h
  simp only [go_sem]
 ·replace h := ifF (c := p0_0) hb14 h
  try simp only [go_sem]
  refine seq_go ?_
  try simp only [go_sem]
  replace h := bindE h
  obtain ⟨v21004,hv21004,h⟩ := h
  refine idx_m hv21004 (Core.ds_len _) ?_
  try simp only [go_sem]
  refine cond_i (fun hb15 => ?_) (fun hb15 => ?_)
  ·replace h := ifT (c := (decide (v21004.kind = 11))) hb15 h
   try simp only [go_sem]
   cases h
   simp only [go_sem]
  ·replace h := ifF (c := (decide (v21004.kind = 11))) hb15 h
   try simp only [go_sem]
   refine seq_go ?_
   try simp only [go_sem]
   cases h
   simp only [go_sem]
theorem s_l08Kind_ok (a0 : Core) (r : Int) (h : s_l08Kind a0 = some r) : AC Tryz.prog 145 [.rop (Core.avs a0) 0] (.int .i64 r) := by
 unfold s_l08Kind at h
 refine ac_fn mixed Tryz.func145 rfl rfl rfl (by kernel_rfl) (by kernel_rfl) ?_
 try simp only [go_sem]
 refine cond_i (fun hb1 => ?_) (fun hb1 => ?_)
 ·replace h := ifT (c := (decide (a0.kind = 5))) hb1 h
  try simp only [go_sem]
  replace h := bindE h
  obtain ⟨v4004,hv4004,h⟩ := h
  refine idx_m hv4004 (Core.ds_len _) ?_
  try simp only [go_sem]
  refine cond_i (fun hb2 => ?_) (fun hb2 => ?_)
  ·replace h := ifT (c := (decide (v4004.kind = 4))) hb2 h
   try simp only [go_sem]
   cases h
   simp only [go_sem]
  ·replace h := ifF (c := (decide (v4004.kind = 4))) hb2 h
   try simp only [go_sem]
   refine cond_i (fun hb3 => ?_) (fun hb3 => ?_)
   ·replace h := ifT (c := (decide (v4004.kind = 11))) hb3 h
    try simp only [go_sem]
    cases h
    simp only [go_sem]
   ·replace h := ifF (c := (decide (v4004.kind = 11))) hb3 h
    try simp only [go_sem]
    refine seq_go ?_
    try simp only [go_sem]
    cases h
    simp only [go_sem]
 ·replace h := ifF (c := (decide (a0.kind = 5))) hb1 h
  try simp only [go_sem]
  refine cond_i (fun hb4 => ?_) (fun hb4 => ?_)
  ·replace h := ifT (c := (decide (a0.kind = 3))) hb4 h
   try simp only [go_sem]
   replace h := bindE h
   obtain ⟨v10004,hv10004,h⟩ := h
   refine idx_m hv10004 (Core.ds_len _) ?_
   try simp only [go_sem]
   refine cond_i (fun hb5 => ?_) (fun hb5 => ?_)
   ·replace h := ifT (c := (decide (v10004.kind = 11))) hb5 h
    try simp only [go_sem]
    cases h
    simp only [go_sem]
   ·replace h := ifF (c := (decide (v10004.kind = 11))) hb5 h
    try simp only [go_sem]
    refine seq_go ?_
    try simp only [go_sem]
    replace h := bindE h
    obtain ⟨v12004,hv12004,h⟩ := h
    refine idx_m hv12004 (Core.ds_len _) ?_
    try simp only [go_sem]
    refine cond_i (fun hb6 => ?_) (fun hb6 => ?_)
    ·replace h := ifT (c := (decide (v12004.kind = 2))) hb6 h
     try simp only [go_sem]
     replace h := bindE h
     obtain ⟨v13004,hv13004,h⟩ := h
     refine idx_m hv13004 (Core.ds_len _) ?_
     try simp only [go_sem]
     refine cond_i (fun hb7 => ?_) (fun hb7 => ?_)
     ·replace h := ifT (c := (decide (v13004.kind = 2))) hb7 h
      try simp only [go_sem]
      cases h
      simp only [go_sem]
     ·replace h := ifF (c := (decide (v13004.kind = 2))) hb7 h
      try simp only [go_sem]
      refine cond_i (fun hb8 => ?_) (fun hb8 => ?_)
      ·replace h := ifT (c := (decide (v13004.kind = 11))) hb8 h
       try simp only [go_sem]
       cases h
       simp only [go_sem]
      ·replace h := ifF (c := (decide (v13004.kind = 11))) hb8 h
       try simp only [go_sem]
       refine seq_go ?_
       try simp only [go_sem]
       cases h
       simp only [go_sem]
    ·replace h := ifF (c := (decide (v12004.kind = 2))) hb6 h
     try simp only [go_sem]
     refine seq_go ?_
     try simp only [go_sem]
     cases h
     simp only [go_sem]
  ·replace h := ifF (c := (decide (a0.kind = 3))) hb4 h
   try simp only [go_sem]
   refine cond_i (fun hb9 => ?_) (fun hb9 => ?_)
   ·replace h := ifT (c := (decide (a0.kind = 9))) hb9 h
    try simp only [go_sem]
    refine draw_i [] .fin (by kernel_rfl) ?_
    try simp only [go_sem]
    replace h := bindE h
    obtain ⟨v19004,hv19004,h⟩ := h
    refine idx_m hv19004 (Core.ds_len _) ?_
    try simp only [go_sem]
    refine cond_i (fun hb10 => ?_) (fun hb10 => ?_)
    ·replace h := ifT (c := (decide (v19004.kind = 8))) hb10 h
     try simp only [go_sem]
     replace h := bindE h
     obtain ⟨v19013,hv19013,h⟩ := h
     refine idx_m hv19013 (Core.ds_len _) ?_
     try simp only [go_sem]
     have hj := posF_to rfl rfl (s_l08Kind_j1_ok a0 (decide (v19013.value < ((List.length a0.data : Nat) : Int))) _ h)
     refine seq_to hj (.one ⟨_,.done _,[],[],?_⟩)
     clear hj
     try simp only [go_sem]
    ·replace h := ifF (c := (decide (v19004.kind = 8))) hb10 h
     try simp only [go_sem]
     have hj := posF_to rfl rfl (s_l08Kind_j1_ok a0 false _ h)
     refine seq_to hj (.one ⟨_,.done _,[],[],?_⟩)
     clear hj
     try simp only [go_sem]
   ·replace h := ifF (c := (decide (a0.kind = 9))) hb9 h
    try simp only [go_sem]
    refine cond_i (fun hb11 => ?_) (fun hb11 => ?_)
    ·replace h := ifT (c := (decide (a0.kind = 10))) hb11 h
     try simp only [go_sem]
     replace h := bindE h
     obtain ⟨v24004,hv24004,h⟩ := h
     refine idx_m hv24004 (Core.ds_len _) ?_
     try simp only [go_sem]
     refine cond_i (fun hb12 => ?_) (fun hb12 => ?_)
     ·replace h := ifT (c := (decide (v24004.kind = 2))) hb12 h
      try simp only [go_sem]
      cases h
      simp only [go_sem]
     ·replace h := ifF (c := (decide (v24004.kind = 2))) hb12 h
      try simp only [go_sem]
      refine cond_i (fun hb13 => ?_) (fun hb13 => ?_)
      ·replace h := ifT (c := (decide (v24004.kind = 11))) hb13 h
       try simp only [go_sem]
       cases h
       simp only [go_sem]
      ·replace h := ifF (c := (decide (v24004.kind = 11))) hb13 h
       try simp only [go_sem]
       refine seq_go ?_
       try simp only [go_sem]
       cases h
       simp only [go_sem]
    ·replace h := ifF (c := (decide (a0.kind = 10))) hb11 h
     try simp only [go_sem]
     refine seq_go ?_
     try simp only [go_sem]
     cases h
     simp only [go_sem]
theorem s_l06N_ok (a0 : Int) (r : Core) (h : s_l06N a0 = some r) : AG Tryz.prog 147 [.int .i64 a0] [] [] (.agg [.int .i64 r.kind,.int .i64 r.value,.ro (List.map i64D r.data),.ro (List.map Core.ds r.kids)]) [] [] := by
 unfold s_l06N at h
 refine ag_fn mixed Tryz.func147 rfl rfl rfl (by kernel_rfl) (by kernel_rfl) ?_
 try simp only [go_sem]
 cases h
 refine ret_i (.frzN [(0,[2]),(0,[3])] [] _ _ (by (first | rfl | (simp only [go_sem]; rfl))) (by (first | rfl | (simp only [go_sem]; rfl))) (.done _)) [] [] ?_
 simp only [go_sem]
 all_goals try rfl
theorem s_Wrap32_ok (a0 : Int) (r : Int) (h : s_Wrap32 a0 = some r) : AC Tryz.prog 275 [.int .i64 a0] (.int .i64 r) := by
 unfold s_Wrap32 at h
 refine ac_fn mixed Tryz.func275 rfl rfl rfl (by kernel_rfl) (by kernel_rfl) ?_
 try simp only [go_sem]
 cases h
 simp only [go_sem]
theorem s_l01Bool_ok (a0 : Bool) (r : Int) (h : s_l01Bool a0 = some r) : AC Tryz.prog 276 [.bool a0] (.int .i64 r) := by
 unfold s_l01Bool at h
 refine ac_fn mixed Tryz.func276 rfl rfl rfl (by kernel_rfl) (by kernel_rfl) ?_
 try simp only [go_sem]
 refine cond_i (fun hb1 => ?_) (fun hb1 => ?_)
 ·replace h := ifT (c := a0) hb1 h
  try simp only [go_sem]
  cases h
  simp only [go_sem]
 ·replace h := ifF (c := a0) hb1 h
  try simp only [go_sem]
  refine seq_go ?_
  try simp only [go_sem]
  cases h
  simp only [go_sem]
theorem s_Operate_ok (a0 : Int) (a1 : Int) (a2 : Int) (r : Int) (h : s_Operate a0 a1 a2 = some r) : AC Tryz.prog 148 [.int .i64 a0,.int .i64 a1,.int .i64 a2] (.int .i64 r) := by
 unfold s_Operate at h
 refine ac_fn mixed Tryz.func148 rfl rfl rfl (by kernel_rfl) (by kernel_rfl) ?_
 try simp only [go_sem]
 replace h := bindE h
 obtain ⟨v2001,hv2001,h⟩ := h
 refine call_i (s_Wrap32_ok _ _ hv2001) ?_
 try simp only [go_sem]
 refine seq_go ?_
 try simp only [go_sem]
 replace h := bindE h
 obtain ⟨v3001,hv3001,h⟩ := h
 refine call_i (s_Wrap32_ok _ _ hv3001) ?_
 try simp only [go_sem]
 refine seq_go ?_
 try simp only [go_sem]
 refine cond_i (fun hb1 => ?_) (fun hb1 => ?_)
 ·replace h := ifT (c := (decide (a0 = 1))) hb1 h
  try simp only [go_sem]
  replace h := bindE h
  obtain ⟨v6003,hv6003,h⟩ := h
  refine call_i (s_Wrap32_ok _ _ hv6003) ?_
  try simp only [go_sem]
  refine seq_go ?_
  try simp only [go_sem]
  cases h
  simp only [go_sem]
 ·replace h := ifF (c := (decide (a0 = 1))) hb1 h
  try simp only [go_sem]
  refine cond_i (fun hb2 => ?_) (fun hb2 => ?_)
  ·replace h := ifT (c := (decide (a0 = 2))) hb2 h
   try simp only [go_sem]
   replace h := bindE h
   obtain ⟨v8003,hv8003,h⟩ := h
   refine call_i (s_Wrap32_ok _ _ hv8003) ?_
   try simp only [go_sem]
   refine seq_go ?_
   try simp only [go_sem]
   cases h
   simp only [go_sem]
  ·replace h := ifF (c := (decide (a0 = 2))) hb2 h
   try simp only [go_sem]
   refine cond_i (fun hb3 => ?_) (fun hb3 => ?_)
   ·replace h := ifT (c := (decide (a0 = 3))) hb3 h
    try simp only [go_sem]
    replace h := bindE h
    obtain ⟨v10003,hv10003,h⟩ := h
    refine call_i (s_Wrap32_ok _ _ hv10003) ?_
    try simp only [go_sem]
    refine seq_go ?_
    try simp only [go_sem]
    cases h
    simp only [go_sem]
   ·replace h := ifF (c := (decide (a0 = 3))) hb3 h
    try simp only [go_sem]
    refine cond_i (fun hb4 => ?_) (fun hb4 => ?_)
    ·replace h := ifT (c := (decide (a0 = 4))) hb4 h
     try simp only [go_sem]
     refine cond_i (fun hb5 => ?_) (fun hb5 => ?_)
     ·replace h := ifT (c := (decide (v3001 = 0))) hb5 h
      try simp only [go_sem]
      cases h
      simp only [go_sem]
     ·replace h := ifF (c := (decide (v3001 = 0))) hb5 h
      try simp only [go_sem]
      refine seq_go ?_
      try simp only [go_sem]
      replace h := bindE h
      obtain ⟨v14002,hv14002,h⟩ := h
      refine and_i (nz_some hv14002) ?_
      try simp only [go_sem]
      replace h := bindE h
      obtain ⟨v14003,hv14003,h⟩ := h
      refine call_i (s_Wrap32_ok _ _ hv14003) ?_
      try simp only [go_sem]
      refine seq_go ?_
      try simp only [go_sem]
      cases h
      simp only [go_sem]
    ·replace h := ifF (c := (decide (a0 = 4))) hb4 h
     try simp only [go_sem]
     refine cond_i (fun hb6 => ?_) (fun hb6 => ?_)
     ·replace h := ifT (c := (decide (a0 = 5))) hb6 h
      try simp only [go_sem]
      replace h := bindE h
      obtain ⟨v16003,hv16003,h⟩ := h
      refine call_i (s_l01Bool_ok _ _ hv16003) ?_
      try simp only [go_sem]
      refine seq_go ?_
      try simp only [go_sem]
      cases h
      simp only [go_sem]
     ·replace h := ifF (c := (decide (a0 = 5))) hb6 h
      try simp only [go_sem]
      refine cond_i (fun hb7 => ?_) (fun hb7 => ?_)
      ·replace h := ifT (c := (decide (a0 = 6))) hb7 h
       try simp only [go_sem]
       replace h := bindE h
       obtain ⟨v18003,hv18003,h⟩ := h
       refine call_i (s_l01Bool_ok _ _ hv18003) ?_
       try simp only [go_sem]
       refine seq_go ?_
       try simp only [go_sem]
       cases h
       simp only [go_sem]
      ·replace h := ifF (c := (decide (a0 = 6))) hb7 h
       try simp only [go_sem]
       refine seq_go ?_
       try simp only [go_sem]
       cases h
       simp only [go_sem]
theorem s_l06R_ok (a0 : Int) (r : Core) (h : s_l06R a0 = some r) : AG Tryz.prog 277 [.int .i64 a0] [] [] (.agg [.int .i64 r.kind,.int .i64 r.value,.ro (List.map i64D r.data),.ro (List.map Core.ds r.kids)]) [] [] := by
 unfold s_l06R at h
 refine ag_fn mixed Tryz.func277 rfl rfl rfl (by kernel_rfl) (by kernel_rfl) ?_
 try simp only [go_sem]
 cases h
 refine ret_i (.frzN [(0,[2]),(0,[3])] [] _ _ (by (first | rfl | (simp only [go_sem]; rfl))) (by (first | rfl | (simp only [go_sem]; rfl))) (.done _)) [] [] ?_
 simp only [go_sem]
 all_goals try rfl
theorem s_l06C_ok (a0 : Int) (a1 : Int) (a2 : List Core) (r : Core) (h : s_l06C a0 a1 a2 = some r) : AG Tryz.prog 390 [.int .i64 a0,.int .i64 a1,.ro (List.map Core.ds a2)] [] [] (.agg [.int .i64 r.kind,.int .i64 r.value,.ro (List.map i64D r.data),.ro (List.map Core.ds r.kids)]) [] [] := by
 unfold s_l06C at h
 refine ag_fn mixed Tryz.func390 rfl rfl rfl (by kernel_rfl) (by kernel_rfl) ?_
 try simp only [go_sem]
 cases h
 refine ret_i (.frzN [(0,[2])] [] _ _ (by (first | rfl | (simp only [go_sem]; rfl))) (by (first | rfl | (simp only [go_sem]; rfl))) (.done _)) [] [] ?_
 simp only [go_sem]
 all_goals try rfl
theorem s_l06A_ok (a0 : Core) (a1 : Core) (r : Core) (h : s_l06A a0 a1 = some r) : AG Tryz.prog 278 [.agg [.int .i64 a0.kind,.int .i64 a0.value,.ro (List.map i64D a0.data),.ro (List.map Core.ds a0.kids)],.agg [.int .i64 a1.kind,.int .i64 a1.value,.ro (List.map i64D a1.data),.ro (List.map Core.ds a1.kids)]] [] [] (.agg [.int .i64 r.kind,.int .i64 r.value,.ro (List.map i64D r.data),.ro (List.map Core.ds r.kids)]) [] [] := by
 unfold s_l06A at h
 refine ag_fn mixed Tryz.func278 rfl rfl rfl (by kernel_rfl) (by kernel_rfl) ?_
 try simp only [go_sem]
 replace h := bindE h
 obtain ⟨v2003,hv2003,h⟩ := h
 refine call_f [2002] ⟨[],[],[],[],[],true⟩ (by kernel_rfl) (s_l06C_ok _ _ _ _ hv2003) (by kernel_rfl) ?_
 try simp only [go_sem]
 refine seq_go ?_
 try simp only [go_sem]
 cases h
 refine ret_i (.done _) [] [] ?_
 simp only [go_sem]
theorem s_l08Chosen_l2_ok (n : Nat) : (∀ (a1 : List Core) (p1_0 : Int) (p1_1 : Int) (p1_2 : List Int) (p1_3 : List Core) (p1_4 : Int) (r : Core),s_l08Chosen_l2 n a1 p1_0 p1_1 p1_2 p1_3 p1_4 = some r → posG Tryz.prog Tryz.f149 [1,1,1,0,1,0] (.agg [.int .i64 r.kind,.int .i64 r.value,.ro (List.map i64D r.data),.ro (List.map Core.ds r.kids)]) [] [] ⟨[(1,.ro (List.map Core.ds a1)),(4,.box 1000001500 0),(5,.box 1000001501 0),(6,.int .i64 p1_4)],[],[(1000001500,some [.int .i64 0,.int .i64 0,.nils,.nils]),(1000001501,some [.int .i64 p1_0,.int .i64 p1_1,.ro (List.map i64D p1_2),.ro (List.map Core.ds p1_3)])]⟩) := by
 induction n with
 | zero => exact ((fun _ _ _ _ _ _ _ h => by rw [s_l08Chosen_l2] at h; cases h))
 | succ n ih =>
  have ih0 := ih
  ·intro a1 p1_0 p1_1 p1_2 p1_3 p1_4 r h
   rw [s_l08Chosen_l2] at h
   refine posG_of rfl rfl ?_
   try simp only [go_sem]
   refine loop_i ?_
   try simp only [go_sem]
   refine cond_i (fun hb3 => ?_) (fun hb3 => ?_)
   ·replace h := ifT (c := (decide (p1_4 < ((List.length a1 : Nat) : Int)))) hb3 h
    try simp only [go_sem]
    refine seq_go ?_
    try simp only [go_sem]
    refine draw_i [false,false,false,false,false,false,true] (Tr.sq [6] .fin) (by kernel_rfl) ?_
    try simp only [go_sem]
    replace h := bindE h
    obtain ⟨v10003,hv10003,h⟩ := h
    refine idx_m hv10003 (Core.ds_len _) ?_
    try simp only [go_sem]
    replace h := bindE h
    obtain ⟨v10005,hv10005,h⟩ := h
    refine call_z (s_l06A_ok _ _ _ hv10005) (by (first | rfl | (simp only [go_sem]; rfl))) (by first | rfl | (simp only [go_sem])) ?_
    try simp only [go_sem]
    refine seq_go ?_
    try simp only [go_sem]
    have hj := posG_to rfl rfl (ih0 a1 v10005.kind v10005.value v10005.data v10005.kids (IntKind.i64.wrap (p1_4 + 1)) _ h)
    refine lp_to hj (.one ⟨_,.done _,[],[(1000001500,1000001500),(1000001501,1000001501)],?_⟩)
    clear hj
    try simp only [go_sem]
   ·replace h := ifF (c := (decide (p1_4 < ((List.length a1 : Nat) : Int)))) hb3 h
    try simp only [go_sem]
    refine seq_go ?_
    try simp only [go_sem]
    cases h
    refine ret_i (.done _) [] [] ?_
    simp only [go_sem]
theorem s_l08Chosen_ok (a0 : Core) (a1 : List Core) (r : Core) (h : s_l08Chosen a0 a1 = some r) : AG Tryz.prog 149 [.rop [.int .i64 a0.kind,.int .i64 a0.value,.ro (List.map i64D a0.data),.ro (List.map Core.ds a0.kids)] 0,.ro (List.map Core.ds a1)] [] [] (.agg [.int .i64 r.kind,.int .i64 r.value,.ro (List.map i64D r.data),.ro (List.map Core.ds r.kids)]) [] [] := by
 unfold s_l08Chosen at h
 refine ag_fn mixed Tryz.func149 rfl rfl rfl (by kernel_rfl) (by kernel_rfl) ?_
 try simp only [go_sem]
 refine cond_i (fun hb1 => ?_) (fun hb1 => ?_)
 ·replace h := ifT (c := (decide (a0.kind = 10))) hb1 h
  try simp only [go_sem]
  replace h := bindE h
  obtain ⟨v3004,hv3004,h⟩ := h
  refine idx_m hv3004 (Core.ds_len _) ?_
  try simp only [go_sem]
  refine cond_i (fun hb2 => ?_) (fun hb2 => ?_)
  ·replace h := ifT (c := (!decide (v3004.value = 0))) hb2 h
   try simp only [go_sem]
   replace h := bindE h
   obtain ⟨v4004,hv4004,h⟩ := h
   refine idx_m hv4004 rfl ?_
   try simp only [go_sem]
   replace h := bindE h
   obtain ⟨v4006,hv4006,h⟩ := h
   refine call_z (s_l06R_ok _ _ hv4006) (by (first | rfl | (simp only [go_sem]; rfl))) (by first | rfl | (simp only [go_sem])) ?_
   try simp only [go_sem]
   refine seq_go ?_
   try simp only [go_sem]
   cases h
   refine ret_i (.done _) [] [] ?_
   simp only [go_sem]
  ·replace h := ifF (c := (!decide (v3004.value = 0))) hb2 h
   try simp only [go_sem]
   refine seq_go ?_
   try simp only [go_sem]
   replace h := bindE h
   obtain ⟨v5004,hv5004,h⟩ := h
   refine idx_m hv5004 rfl ?_
   try simp only [go_sem]
   replace h := bindE h
   obtain ⟨v5006,hv5006,h⟩ := h
   refine call_z (s_l06R_ok _ _ hv5006) (by (first | rfl | (simp only [go_sem]; rfl))) (by first | rfl | (simp only [go_sem])) ?_
   try simp only [go_sem]
   refine seq_go ?_
   try simp only [go_sem]
   cases h
   refine ret_i (.done _) [] [] ?_
   simp only [go_sem]
 ·replace h := ifF (c := (decide (a0.kind = 10))) hb1 h
  try simp only [go_sem]
  refine seq_go ?_
  try simp only [go_sem]
  refine draw_i [false,false,false,false,false,false,false,false,false,false,false,false,false,false,false,true] (Tr.sq [15] .fin) (by kernel_rfl) ?_
  try simp only [go_sem]
  replace h := bindE h
  obtain ⟨v6008,hv6008,h⟩ := h
  refine idx_m hv6008 (Core.ds_len _) ?_
  try simp only [go_sem]
  replace h := bindE h
  obtain ⟨v6011,hv6011,h⟩ := h
  refine idx_m hv6011 rfl ?_
  try simp only [go_sem]
  replace h := bindE h
  obtain ⟨v6013,hv6013,h⟩ := h
  refine call_z (s_l06R_ok _ _ hv6013) (by (first | rfl | (simp only [go_sem]; rfl))) (by first | rfl | (simp only [go_sem])) ?_
  try simp only [go_sem]
  refine seq_go ?_
  try simp only [go_sem]
  have hj := posG_to rfl rfl (s_l08Chosen_l2_ok fuel a1 v6013.kind v6013.value v6013.data v6013.kids 0 _ h)
  refine loop_to hj (.one ⟨_,.done _,[],[(1000001500,1000),(1000001501,6014)],?_⟩)
  clear hj
  try simp only [go_sem]
theorem s_l08Expand_j1_ok (a0 : Book) (a1 : Core) (v2014 : List Core) (p0_0 : Int) (r : Core) (h : s_l08Expand_j1 a0 a1 v2014 p0_0 = some r) : posG Tryz.prog Tryz.f150 [1,1,1,1] (.agg [.int .i64 r.kind,.int .i64 r.value,.ro (List.map i64D r.data),.ro (List.map Core.ds r.kids)]) [] [] ⟨[(0,.rop [.ro (List.map Core.ds a0.defs)] 0),(1,.rop [.int .i64 a1.kind,.int .i64 a1.value,.ro (List.map i64D a1.data),.ro (List.map Core.ds a1.kids)] 0),(6,.box 1000000500 0),(7,.box 1000000501 0),(8,.int .i64 p0_0)],[(1000000000,some ⟨List.map Core.dz v2014,some 4,0,true⟩)],[(1000000500,some [.int .i64 0,.int .i64 0,.nils,.nils]),(1000000501,some [.int .i64 a1.kind,.int .i64 a1.value,.ro (List.map i64D a1.data),.own 1000000000])]⟩ := by
 unfold s_l08Expand_j1 at h
 refine posG_of rfl rfl ?_
 try simp only [go_sem]
 refine draw_i [false,false,false,false,false,false,false,false,false,false,false,false,false,false,false,false,false,false,true] (Tr.sq [18] .fin) (by kernel_rfl) ?_
 try simp only [go_sem]
 replace h := bindE h
 obtain ⟨v6012,hv6012,h⟩ := h
 refine idx_m hv6012 (Core.ds_len _) ?_
 try simp only [go_sem]
 replace h := bindE h
 obtain ⟨v6015,hv6015,h⟩ := h
 refine idx_m hv6015 (Core.ds_len _) ?_
 try simp only [go_sem]
 replace h := bindE h
 obtain ⟨v6017,hv6017,h⟩ := h
 refine idx_m hv6017 (Core.dz_len _) ?_
 try simp only [go_sem]
 replace h := bindE h
 obtain ⟨v6018_2,hv6018_2,h⟩ := h
 refine opt_i (row_m hv6017) ?_
 try simp only [go_sem]
 refine row_i (List.map Core.dz v6018_2) (by rw [← set1_some hv6018_2]; simp only [List.map_set,go_sem,Core.ds_eq,Core.dz_eq]) ?_
 try simp only [go_sem]
 refine seq_go ?_
 try simp only [go_sem]
 cases h
 refine ret_i (.frzT 1000000000 [(0,[3])] [(1000000500,3),(1000000501,3)] _ _ _ (by (first | rfl | (simp only [go_sem]; rfl))) (by decide) (by (first | rfl | (simp only [go_sem]; rfl))) (by (first | rfl | (simp only [go_sem]; rfl))) (.done _)) [] [] ?_
 simp only [go_sem]
 all_goals try rfl
theorem s_l08Expand_ok (a0 : Book) (a1 : Core) (a2 : List Core) (r : Core) (h : s_l08Expand a0 a1 a2 = some r) : AG Tryz.prog 150 [.rop [.ro (List.map Core.ds a0.defs)] 0,.rop [.int .i64 a1.kind,.int .i64 a1.value,.ro (List.map i64D a1.data),.ro (List.map Core.ds a1.kids)] 0,.ro (List.map Core.ds a2)] [] [] (.agg [.int .i64 r.kind,.int .i64 r.value,.ro (List.map i64D r.data),.ro (List.map Core.ds r.kids)]) [] [] := by
 unfold s_l08Expand at h
 refine ag_fn mixed Tryz.func150 rfl rfl rfl (by kernel_rfl) (by kernel_rfl) ?_
 try simp only [go_sem]
 refine draw_i [false,false,false,false,false,false,false,false,false,false,false,false,false,false,false,false,false,true] (Tr.sq [17] .fin) (by kernel_rfl) ?_
 try simp only [go_sem]
 replace h := bindE h
 obtain ⟨v2014,hv2014,h⟩ := h
 have hq_ := app_some hv2014
 obtain ⟨hv2014a,hv2014b⟩ := hq_
 refine and_i (by rfl) ?_
 try simp only [go_sem]
 refine zed_i true ?_
 try simp only [go_sem]
 refine and_i (ng_rows_of (by intro x; exact ⟨(Core.ds_len _),Core.dz_ng x⟩) _) ?_
 try simp only [go_sem]
 refine row_i (List.map Core.dz a2) (fzR_map Core.dz_fz _) ?_
 try simp only [go_sem]
 refine and_i (by refine ⟨?_,?_⟩ <;> (try simp only [List.length_map,List.length_append,List.length_cons,List.length_nil] at *) <;> (try unfold maxLen) <;> omega) ?_
 try simp only [go_sem]
 refine row_i (List.map Core.dz v2014) (by rw [← hv2014b]; simp only [List.nil_append]) ?_
 try simp only [go_sem]
 refine seq_go ?_
 try simp only [go_sem]
 replace h := bindE h
 obtain ⟨v4004,hv4004,h⟩ := h
 refine idx_m hv4004 (Core.ds_len _) ?_
 try simp only [go_sem]
 refine cond_i (fun hb1 => ?_) (fun hb1 => ?_)
 ·replace h := ifT (c := (!decide (v4004.kind = 11))) hb1 h
  try simp only [go_sem]
  have hj := posG_to rfl rfl (s_l08Expand_j1_ok a0 a1 v2014 1 _ h)
  refine seq_to hj (.one ⟨_,.done _,[(1000000000,32224)],[(1000000500,1000),(1000000501,2016)],?_⟩)
  clear hj
  try simp only [go_sem]
 ·replace h := ifF (c := (!decide (v4004.kind = 11))) hb1 h
  try simp only [go_sem]
  have hj := posG_to rfl rfl (s_l08Expand_j1_ok a0 a1 v2014 0 _ h)
  refine seq_to hj (.one ⟨_,.done _,[(1000000000,32224)],[(1000000500,1000),(1000000501,2016)],?_⟩)
  clear hj
  try simp only [go_sem]
theorem s_l06Own_ok (a0 : Core) (r : Core) (h : s_l06Own a0 = some r) : AC Tryz.prog 64 [.rop (Core.avs a0) 0] (.agg (Core.rv r)) := by
 unfold s_l06Own at h
 refine ac_fn mixed Tryz.func64 rfl rfl rfl (by kernel_rfl) (by kernel_rfl) ?_
 try simp only [go_sem]
 replace h := bindE h
 obtain ⟨v2001,hv2001,h⟩ := h
 refine call_i (s_l06Shift_ok fuel _ _ _ _ hv2001) ?_
 try simp only [go_sem]
 refine seq_go ?_
 try simp only [go_sem]
 cases h
 simp only [go_sem]
theorem i_IsErased_1_ok (a0 : Core) (r : Bool) (h : i_IsErased_1 a0 = some r) : AC Tryz.prog 395 [.agg (Core.avs a0)] (.bool r) := by
 unfold i_IsErased_1 at h
 refine ac_fn mixed Tryz.func395 rfl rfl rfl (by kernel_rfl) (by kernel_rfl) ?_
 try simp only [go_sem]
 refine cond_i (fun hb1 => ?_) (fun hb1 => ?_)
 ·replace h := ifT (c := (decide (a0.kind = 6))) hb1 h
  try simp only [go_sem]
  refine seq_go ?_
  try simp only [go_sem]
  cases h
  simp only [go_sem]
 ·replace h := ifF (c := (decide (a0.kind = 6))) hb1 h
  try simp only [go_sem]
  refine seq_go ?_
  try simp only [go_sem]
  cases h
  simp only [go_sem]
theorem i_IsErased_ok (a0 : Core) (r : Bool) (h : i_IsErased a0 = some r) : AC Tryz.prog 284 [.agg (Core.avs a0)] (.bool r) := by
 unfold i_IsErased at h
 refine ac_fn mixed Tryz.func284 rfl rfl rfl (by kernel_rfl) (by kernel_rfl) ?_
 try simp only [go_sem]
 replace h := bindE h
 obtain ⟨v2001,hv2001,h⟩ := h
 refine call_i (i_ValidCore_ok _ _ hv2001) ?_
 try simp only [go_sem]
 refine cond_i (fun hb1 => ?_) (fun hb1 => ?_)
 ·replace h := ifT (c := v2001) hb1 h
  try simp only [go_sem]
  replace h := bindE h
  obtain ⟨v2004,hv2004,h⟩ := h
  refine call_i (i_anyCore_ok fuel _ _ 395 [] (Still.of rfl) (fun y0 q hq => i_IsErased_1_ok y0  q hq) _ hv2004) ?_
  try simp only [go_sem]
  refine seq_go ?_
  try simp only [go_sem]
  cases h
  simp only [go_sem]
 ·replace h := ifF (c := v2001) hb1 h
  try simp only [go_sem]
  refine seq_go ?_
  try simp only [go_sem]
  cases h
  simp only [go_sem]
theorem i_isErasedBook_1_ok (a0 : Core) (r : Bool) (h : i_isErasedBook_1 a0 = some r) : AC Tryz.prog 283 [.agg (Core.avs a0)] (.bool r) := by
 unfold i_isErasedBook_1 at h
 refine ac_fn mixed Tryz.func283 rfl rfl rfl (by kernel_rfl) (by kernel_rfl) ?_
 try simp only [go_sem]
 replace h := bindE h
 obtain ⟨v2001,hv2001,h⟩ := h
 refine call_i (i_IsErased_ok _ _ hv2001) ?_
 try simp only [go_sem]
 refine seq_go ?_
 try simp only [go_sem]
 cases h
 simp only [go_sem]
theorem i_isErasedBook_ok (a0 : Book) (r : Bool) (h : i_isErasedBook a0 = some r) : AC Tryz.prog 153 [.agg (Book.avs a0)] (.bool r) := by
 unfold i_isErasedBook at h
 refine ac_fn mixed Tryz.func153 rfl rfl rfl (by kernel_rfl) (by kernel_rfl) ?_
 try simp only [go_sem]
 replace h := bindE h
 obtain ⟨v2001,hv2001,h⟩ := h
 refine call_i (i_ValidBook_ok _ _ hv2001) ?_
 try simp only [go_sem]
 refine cond_i (fun hb1 => ?_) (fun hb1 => ?_)
 ·replace h := ifT (c := v2001) hb1 h
  try simp only [go_sem]
  replace h := bindE h
  obtain ⟨v2005,hv2005,h⟩ := h
  refine call_i (g_ContainsFunc_simpl_Core_ok _ _ 283 [] (Still.of rfl) (fun y0 q hq => i_isErasedBook_1_ok y0  q hq) _ hv2005) ?_
  try simp only [go_sem]
  refine seq_go ?_
  try simp only [go_sem]
  cases h
  simp only [go_sem]
 ·replace h := ifF (c := v2001) hb1 h
  try simp only [go_sem]
  refine seq_go ?_
  try simp only [go_sem]
  cases h
  simp only [go_sem]
theorem i_isErasedTerm_ok (a0 : Book) (a1 : Core) (r : Bool) (h : i_isErasedTerm a0 a1 = some r) : AC Tryz.prog 154 [.agg (Book.avs a0),.agg (Core.avs a1)] (.bool r) := by
 unfold i_isErasedTerm at h
 refine ac_fn mixed Tryz.func154 rfl rfl rfl (by kernel_rfl) (by kernel_rfl) ?_
 try simp only [go_sem]
 replace h := bindE h
 obtain ⟨v2001,hv2001,h⟩ := h
 refine call_i (i_IsClosed_ok _ _ hv2001) ?_
 try simp only [go_sem]
 refine cond_i (fun hb1 => ?_) (fun hb1 => ?_)
 ·replace h := ifT (c := v2001) hb1 h
  try simp only [go_sem]
  replace h := bindE h
  obtain ⟨v2004,hv2004,h⟩ := h
  refine call_i (i_IsErased_ok _ _ hv2004) ?_
  try simp only [go_sem]
  refine cond_i (fun hb2 => ?_) (fun hb2 => ?_)
  ·replace h := ifT (c := v2004) hb2 h
   try simp only [go_sem]
   replace h := bindE h
   obtain ⟨v2011,hv2011,h⟩ := h
   refine call_i (i_namesOnly_ok _ _ _ hv2011) ?_
   try simp only [go_sem]
   refine seq_go ?_
   try simp only [go_sem]
   cases h
   simp only [go_sem]
  ·replace h := ifF (c := v2004) hb2 h
   try simp only [go_sem]
   refine seq_go ?_
   try simp only [go_sem]
   cases h
   simp only [go_sem]
 ·replace h := ifF (c := v2001) hb1 h
  try simp only [go_sem]
  refine seq_go ?_
  try simp only [go_sem]
  cases h
  simp only [go_sem]
theorem i_isMachineState_ok (a0 : Book) (a1 : Core) (r : Bool) (h : i_isMachineState a0 a1 = some r) : AC Tryz.prog 66 [.agg (Book.avs a0),.agg (Core.avs a1)] (.bool r) := by
 unfold i_isMachineState at h
 refine ac_fn mixed Tryz.func66 rfl rfl rfl (by kernel_rfl) (by kernel_rfl) ?_
 try simp only [go_sem]
 replace h := bindE h
 obtain ⟨v2001,hv2001,h⟩ := h
 refine call_i (i_isErasedBook_ok _ _ hv2001) ?_
 try simp only [go_sem]
 refine cond_i (fun hb1 => ?_) (fun hb1 => ?_)
 ·replace h := ifT (c := v2001) hb1 h
  try simp only [go_sem]
  replace h := bindE h
  obtain ⟨v2005,hv2005,h⟩ := h
  refine call_i (i_isErasedTerm_ok _ _ _ hv2005) ?_
  try simp only [go_sem]
  refine seq_go ?_
  try simp only [go_sem]
  cases h
  simp only [go_sem]
 ·replace h := ifF (c := v2001) hb1 h
  try simp only [go_sem]
  refine seq_go ?_
  try simp only [go_sem]
  cases h
  simp only [go_sem]
theorem i_redexKind_j2_ok (p1_0 : Bool) (r : Int) (h : i_redexKind_j2 p1_0 = some r) : posF Tryz.prog Tryz.f156 [1,1,1,0,1,0,1,1,1,0,1,0,1,1,1] (.int .i64 r) ⟨[(38,.bool p1_0)],[],[]⟩ := by
 unfold i_redexKind_j2 at h
 refine posF_of rfl rfl ?_
 try simp only [go_sem]
 refine cond_i (fun hb15 => ?_) (fun hb15 => ?_)
 ·replace h := ifT (c := p1_0) hb15 h
  try simp only [go_sem]
  cases h
  simp only [go_sem]
 ·replace h := ifF (c := p1_0) hb15 h
  try simp only [go_sem]
  refine seq_go ?_
  try simp only [go_sem]
  cases h
  simp only [go_sem]
theorem i_redexKind_j1_ok (v4002 : Core) (v13002 : Core) (p0_0 : Bool) (r : Int) (h : i_redexKind_j1 v4002 v13002 p0_0 = some r) : posF Tryz.prog Tryz.f156 [1,1,1,0,1,0,1,1,1,0,1,0,1] (.int .i64 r) ⟨[(3,.box 1000000500 0),(4,.box 1000000501 0),(29,.bool p0_0)],[],[(1000000500,some [.int .i64 v4002.kind,.int .i64 v4002.value,.ro (List.map i64D v4002.data),.ro (List.map Core.ds v4002.kids)]),(1000000501,some [.int .i64 v13002.kind,.int .i64 v13002.value,.ro (List.map i64D v13002.data),.ro (List.map Core.ds v13002.kids)])]⟩ := by
 unfold i_redexKind_j1 at h
 refine posF_of rfl rfl ?_
 try simp only [go_sem]
 refine cond_i (fun hb8 => ?_) (fun hb8 => ?_)
 ·replace h := ifT (c := p0_0) hb8 h
  try simp only [go_sem]
  cases h
  simp only [go_sem]
 ·replace h := ifF (c := p0_0) hb8 h
  try simp only [go_sem]
  refine cond_i (fun hb9 => ?_) (fun hb9 => ?_)
  ·replace h := ifT (c := (decide (v4002.kind = 11))) hb9 h
   try simp only [go_sem]
   have hj := posF_to rfl rfl (i_redexKind_j2_ok true _ h)
   refine seq_to hj (.one ⟨_,.done _,[],[],?_⟩)
   clear hj
   try simp only [go_sem]
  ·replace h := ifF (c := (decide (v4002.kind = 11))) hb9 h
   try simp only [go_sem]
   refine cond_i (fun hb10 => ?_) (fun hb10 => ?_)
   ·replace h := ifT (c := (decide (v4002.kind = 2))) hb10 h
    try simp only [go_sem]
    have hj := posF_to rfl rfl (i_redexKind_j2_ok (decide (v13002.kind = 11)) _ h)
    refine seq_to hj (.one ⟨_,.done _,[],[],?_⟩)
    clear hj
    try simp only [go_sem]
   ·replace h := ifF (c := (decide (v4002.kind = 2))) hb10 h
    try simp only [go_sem]
    have hj := posF_to rfl rfl (i_redexKind_j2_ok false _ h)
    refine seq_to hj (.one ⟨_,.done _,[],[],?_⟩)
    clear hj
    try simp only [go_sem]
theorem i_redexKind_j5_ok (p4_0 : Bool) (r : Int) (h : i_redexKind_j5 p4_0 = some r) : posF Tryz.prog Tryz.f156 [1,1,1,0,1,0,1,1,1,1,1,0,0,1,1,1] (.int .i64 r) ⟨[(59,.bool p4_0)],[],[]⟩ := by
 unfold i_redexKind_j5 at h
 refine posF_of rfl rfl ?_
 try simp only [go_sem]
 refine cond_i (fun hb16 => ?_) (fun hb16 => ?_)
 ·replace h := ifT (c := p4_0) hb16 h
  try simp only [go_sem]
  cases h
  simp only [go_sem]
 ·replace h := ifF (c := p4_0) hb16 h
  try simp only [go_sem]
  refine seq_go ?_
  try simp only [go_sem]
  cases h
  simp only [go_sem]
theorem i_redexKind_j4_ok (a0 : Core) (v4002 : Core) (p3_0 : Bool) (r : Int) (h : i_redexKind_j4 a0 v4002 p3_0 = some r) : posF Tryz.prog Tryz.f156 [1,1,1,0,1,0,1,1,1,1,1,0,0,1,1,0,1] (.int .i64 r) ⟨[(1,.box 1000003500 0),(3,.box 1000003501 0),(59,.bool p3_0)],[],[(1000003500,some [.int .i64 a0.kind,.int .i64 a0.value,.ro (List.map i64D a0.data),.ro (List.map Core.ds a0.kids)]),(1000003501,some [.int .i64 v4002.kind,.int .i64 v4002.value,.ro (List.map i64D v4002.data),.ro (List.map Core.ds v4002.kids)])]⟩ := by
 unfold i_redexKind_j4 at h
 refine posF_of rfl rfl ?_
 try simp only [go_sem]
 refine cond_i (fun hb17 => ?_) (fun hb17 => ?_)
 ·replace h := ifT (c := p3_0) hb17 h
  try simp only [go_sem]
  have hj := posF_to rfl rfl (i_redexKind_j5_ok p3_0 _ h)
  refine seq_to hj (.one ⟨_,.done _,[],[],?_⟩)
  clear hj
  try simp only [go_sem]
 ·replace h := ifF (c := p3_0) hb17 h
  try simp only [go_sem]
  refine cond_i (fun hb18 => ?_) (fun hb18 => ?_)
  ·replace h := ifT (c := (decide (a0.kind = 10))) hb18 h
   try simp only [go_sem]
   have hj := posF_to rfl rfl (i_redexKind_j5_ok (decide (v4002.kind = 2)) _ h)
   refine seq_to hj (.one ⟨_,.done _,[],[],?_⟩)
   clear hj
   try simp only [go_sem]
  ·replace h := ifF (c := (decide (a0.kind = 10))) hb18 h
   try simp only [go_sem]
   have hj := posF_to rfl rfl (i_redexKind_j5_ok false _ h)
   refine seq_to hj (.one ⟨_,.done _,[],[],?_⟩)
   clear hj
   try simp only [go_sem]
theorem i_redexKind_j3_ok (a0 : Core) (v4002 : Core) (p2_0 : Bool) (r : Int) (h : i_redexKind_j3 a0 v4002 p2_0 = some r) : posF Tryz.prog Tryz.f156 [1,1,1,0,1,0,1,1,1,1,1] (.int .i64 r) ⟨[(1,.box 1000002500 0),(3,.box 1000002501 0),(52,.bool p2_0)],[],[(1000002500,some [.int .i64 a0.kind,.int .i64 a0.value,.ro (List.map i64D a0.data),.ro (List.map Core.ds a0.kids)]),(1000002501,some [.int .i64 v4002.kind,.int .i64 v4002.value,.ro (List.map i64D v4002.data),.ro (List.map Core.ds v4002.kids)])]⟩ := by
 unfold i_redexKind_j3 at h
 refine posF_of rfl rfl ?_
 try simp only [go_sem]
 refine cond_i (fun hb11 => ?_) (fun hb11 => ?_)
 ·replace h := ifT (c := p2_0) hb11 h
  try simp only [go_sem]
  refine cond_i (fun hb12 => ?_) (fun hb12 => ?_)
  ·replace h := ifT (c := (decide (v4002.kind = 11))) hb12 h
   try simp only [go_sem]
   cases h
   simp only [go_sem]
  ·replace h := ifF (c := (decide (v4002.kind = 11))) hb12 h
   try simp only [go_sem]
   refine cond_i (fun hb13 => ?_) (fun hb13 => ?_)
   ·replace h := ifT (c := (decide (a0.kind = 9))) hb13 h
    try simp only [go_sem]
    refine cond_i (fun hb14 => ?_) (fun hb14 => ?_)
    ·replace h := ifT (c := (decide (v4002.kind = 8))) hb14 h
     try simp only [go_sem]
     have hj := posF_to rfl rfl (i_redexKind_j4_ok a0 v4002 (decide (v4002.value < ((List.length a0.data : Nat) : Int))) _ h)
     refine seq_to hj (.one ⟨_,.done _,[],[(1000003500,1000002500),(1000003501,1000002501)],?_⟩)
     clear hj
     try simp only [go_sem]
    ·replace h := ifF (c := (decide (v4002.kind = 8))) hb14 h
     try simp only [go_sem]
     have hj := posF_to rfl rfl (i_redexKind_j4_ok a0 v4002 false _ h)
     refine seq_to hj (.one ⟨_,.done _,[],[(1000003500,1000002500),(1000003501,1000002501)],?_⟩)
     clear hj
     try simp only [go_sem]
   ·replace h := ifF (c := (decide (a0.kind = 9))) hb13 h
    try simp only [go_sem]
    have hj := posF_to rfl rfl (i_redexKind_j4_ok a0 v4002 false _ h)
    refine seq_to hj (.one ⟨_,.done _,[],[(1000003500,1000002500),(1000003501,1000002501)],?_⟩)
    clear hj
    try simp only [go_sem]
 ·replace h := ifF (c := p2_0) hb11 h
  try simp only [go_sem]
  refine seq_go ?_
  try simp only [go_sem]
  cases h
  simp only [go_sem]
theorem i_redexKind_ok (a0 : Core) (r : Int) (h : i_redexKind a0 = some r) : AC Tryz.prog 156 [.agg (Core.avs a0)] (.int .i64 r) := by
 unfold i_redexKind at h
 refine ac_fn mixed Tryz.func156 rfl rfl rfl (by kernel_rfl) (by kernel_rfl) ?_
 try simp only [go_sem]
 refine cond_i (fun hb1 => ?_) (fun hb1 => ?_)
 ·replace h := ifT (c := (decide (((List.length a0.kids : Nat) : Int) = 0))) hb1 h
  try simp only [go_sem]
  cases h
  simp only [go_sem]
 ·replace h := ifF (c := (decide (((List.length a0.kids : Nat) : Int) = 0))) hb1 h
  try simp only [go_sem]
  refine seq_go ?_
  try simp only [go_sem]
  replace h := bindE h
  obtain ⟨v4002,hv4002,h⟩ := h
  refine idx_m hv4002 (Core.ds_len _) ?_
  try simp only [go_sem]
  refine cond_i (fun hb2 => ?_) (fun hb2 => ?_)
  ·replace h := ifT (c := (decide (a0.kind = 5))) hb2 h
   try simp only [go_sem]
   refine cond_i (fun hb3 => ?_) (fun hb3 => ?_)
   ·replace h := ifT (c := (decide (v4002.kind = 4))) hb3 h
    try simp only [go_sem]
    cases h
    simp only [go_sem]
   ·replace h := ifF (c := (decide (v4002.kind = 4))) hb3 h
    try simp only [go_sem]
    refine cond_i (fun hb4 => ?_) (fun hb4 => ?_)
    ·replace h := ifT (c := (decide (v4002.kind = 11))) hb4 h
     try simp only [go_sem]
     cases h
     simp only [go_sem]
    ·replace h := ifF (c := (decide (v4002.kind = 11))) hb4 h
     try simp only [go_sem]
     refine seq_go ?_
     try simp only [go_sem]
     cases h
     simp only [go_sem]
  ·replace h := ifF (c := (decide (a0.kind = 5))) hb2 h
   try simp only [go_sem]
   refine cond_i (fun hb5 => ?_) (fun hb5 => ?_)
   ·replace h := ifT (c := (decide (a0.kind = 3))) hb5 h
    try simp only [go_sem]
    replace h := bindE h
    obtain ⟨v13002,hv13002,h⟩ := h
    refine idx_m hv13002 (Core.ds_len _) ?_
    try simp only [go_sem]
    refine cond_i (fun hb6 => ?_) (fun hb6 => ?_)
    ·replace h := ifT (c := (decide (v4002.kind = 2))) hb6 h
     try simp only [go_sem]
     have hj := posF_to rfl rfl (i_redexKind_j1_ok v4002 v13002 (decide (v13002.kind = 2)) _ h)
     refine seq_to hj (.one ⟨_,.done _,[],[(1000000500,4004),(1000000501,13004)],?_⟩)
     clear hj
     try simp only [go_sem]
    ·replace h := ifF (c := (decide (v4002.kind = 2))) hb6 h
     try simp only [go_sem]
     have hj := posF_to rfl rfl (i_redexKind_j1_ok v4002 v13002 false _ h)
     refine seq_to hj (.one ⟨_,.done _,[],[(1000000500,4004),(1000000501,13004)],?_⟩)
     clear hj
     try simp only [go_sem]
   ·replace h := ifF (c := (decide (a0.kind = 3))) hb5 h
    try simp only [go_sem]
    refine cond_i (fun hb7 => ?_) (fun hb7 => ?_)
    ·replace h := ifT (c := (decide (a0.kind = 9))) hb7 h
     try simp only [go_sem]
     have hj := posF_to rfl rfl (i_redexKind_j3_ok a0 v4002 (decide (a0.kind = 9)) _ h)
     refine seq_to hj (.one ⟨_,.done _,[],[(1000002500,1000),(1000002501,4004)],?_⟩)
     clear hj
     try simp only [go_sem]
    ·replace h := ifF (c := (decide (a0.kind = 9))) hb7 h
     try simp only [go_sem]
     have hj := posF_to rfl rfl (i_redexKind_j3_ok a0 v4002 (decide (a0.kind = 10)) _ h)
     refine seq_to hj (.one ⟨_,.done _,[],[(1000002500,1000),(1000002501,4004)],?_⟩)
     clear hj
     try simp only [go_sem]
theorem i_coreNum_ok (a0 : Int) (r : Core) (h : i_coreNum a0 = some r) : AG Tryz.prog 288 [.int .i64 a0] [] [] (.agg [.int .i64 r.kind,.int .i64 r.value,.ro (List.map i64D r.data),.ro (List.map Core.ds r.kids)]) [] [] := by
 unfold i_coreNum at h
 refine ag_fn mixed Tryz.func288 rfl rfl rfl (by kernel_rfl) (by kernel_rfl) ?_
 try simp only [go_sem]
 cases h
 refine ret_i (.frzN [(0,[2]),(0,[3])] [] _ _ (by (first | rfl | (simp only [go_sem]; rfl))) (by (first | rfl | (simp only [go_sem]; rfl))) (.done _)) [] [] ?_
 simp only [go_sem]
 all_goals try rfl
theorem i_Wrap32_ok (a0 : Int) (r : Int) (h : i_Wrap32 a0 = some r) : AC Tryz.prog 402 [.int .i64 a0] (.int .i64 r) := by
 unfold i_Wrap32 at h
 refine ac_fn mixed Tryz.func402 rfl rfl rfl (by kernel_rfl) (by kernel_rfl) ?_
 try simp only [go_sem]
 cases h
 simp only [go_sem]
theorem i_Operate_ok (a0 : Int) (a1 : Int) (a2 : Int) (r : Int) (h : i_Operate a0 a1 a2 = some r) : AC Tryz.prog 289 [.int .i64 a0,.int .i64 a1,.int .i64 a2] (.int .i64 r) := by
 unfold i_Operate at h
 refine ac_fn mixed Tryz.func289 rfl rfl rfl (by kernel_rfl) (by kernel_rfl) ?_
 try simp only [go_sem]
 replace h := bindE h
 obtain ⟨v2001,hv2001,h⟩ := h
 refine call_i (i_Wrap32_ok _ _ hv2001) ?_
 try simp only [go_sem]
 replace h := bindE h
 obtain ⟨v2003,hv2003,h⟩ := h
 refine call_i (i_Wrap32_ok _ _ hv2003) ?_
 try simp only [go_sem]
 refine seq_go ?_
 try simp only [go_sem]
 refine cond_i (fun hb1 => ?_) (fun hb1 => ?_)
 ·replace h := ifT (c := (decide (a0 = 1))) hb1 h
  try simp only [go_sem]
  replace h := bindE h
  obtain ⟨v5003,hv5003,h⟩ := h
  refine call_i (i_Wrap32_ok _ _ hv5003) ?_
  try simp only [go_sem]
  refine seq_go ?_
  try simp only [go_sem]
  cases h
  simp only [go_sem]
 ·replace h := ifF (c := (decide (a0 = 1))) hb1 h
  try simp only [go_sem]
  refine cond_i (fun hb2 => ?_) (fun hb2 => ?_)
  ·replace h := ifT (c := (decide (a0 = 2))) hb2 h
   try simp only [go_sem]
   replace h := bindE h
   obtain ⟨v7003,hv7003,h⟩ := h
   refine call_i (i_Wrap32_ok _ _ hv7003) ?_
   try simp only [go_sem]
   refine seq_go ?_
   try simp only [go_sem]
   cases h
   simp only [go_sem]
  ·replace h := ifF (c := (decide (a0 = 2))) hb2 h
   try simp only [go_sem]
   refine cond_i (fun hb3 => ?_) (fun hb3 => ?_)
   ·replace h := ifT (c := (decide (a0 = 3))) hb3 h
    try simp only [go_sem]
    replace h := bindE h
    obtain ⟨v9003,hv9003,h⟩ := h
    refine call_i (i_Wrap32_ok _ _ hv9003) ?_
    try simp only [go_sem]
    refine seq_go ?_
    try simp only [go_sem]
    cases h
    simp only [go_sem]
   ·replace h := ifF (c := (decide (a0 = 3))) hb3 h
    try simp only [go_sem]
    refine cond_i (fun hb4 => ?_) (fun hb4 => ?_)
    ·replace h := ifT (c := (decide (a0 = 4))) hb4 h
     try simp only [go_sem]
     refine cond_i (fun hb5 => ?_) (fun hb5 => ?_)
     ·replace h := ifT (c := (decide (v2003 = 0))) hb5 h
      try simp only [go_sem]
      cases h
      simp only [go_sem]
     ·replace h := ifF (c := (decide (v2003 = 0))) hb5 h
      try simp only [go_sem]
      refine seq_go ?_
      try simp only [go_sem]
      replace h := bindE h
      obtain ⟨v13002,hv13002,h⟩ := h
      refine and_i (nz_some hv13002) ?_
      try simp only [go_sem]
      replace h := bindE h
      obtain ⟨v13003,hv13003,h⟩ := h
      refine call_i (i_Wrap32_ok _ _ hv13003) ?_
      try simp only [go_sem]
      refine seq_go ?_
      try simp only [go_sem]
      cases h
      simp only [go_sem]
    ·replace h := ifF (c := (decide (a0 = 4))) hb4 h
     try simp only [go_sem]
     refine cond_i (fun hb6 => ?_) (fun hb6 => ?_)
     ·replace h := ifT (c := (decide (a0 = 5))) hb6 h
      try simp only [go_sem]
      replace h := bindE h
      obtain ⟨v15003,hv15003,h⟩ := h
      refine call_i (i_truth_ok _ _ hv15003) ?_
      try simp only [go_sem]
      refine seq_go ?_
      try simp only [go_sem]
      cases h
      simp only [go_sem]
     ·replace h := ifF (c := (decide (a0 = 5))) hb6 h
      try simp only [go_sem]
      refine cond_i (fun hb7 => ?_) (fun hb7 => ?_)
      ·replace h := ifT (c := (decide (a0 = 6))) hb7 h
       try simp only [go_sem]
       replace h := bindE h
       obtain ⟨v17003,hv17003,h⟩ := h
       refine call_i (i_truth_ok _ _ hv17003) ?_
       try simp only [go_sem]
       refine seq_go ?_
       try simp only [go_sem]
       cases h
       simp only [go_sem]
      ·replace h := ifF (c := (decide (a0 = 6))) hb7 h
       try simp only [go_sem]
       refine seq_go ?_
       try simp only [go_sem]
       cases h
       simp only [go_sem]
theorem i_coreRef_ok (a0 : Int) (r : Core) (h : i_coreRef a0 = some r) : AG Tryz.prog 291 [.int .i64 a0] [] [] (.agg [.int .i64 r.kind,.int .i64 r.value,.ro (List.map i64D r.data),.ro (List.map Core.ds r.kids)]) [] [] := by
 unfold i_coreRef at h
 refine ag_fn mixed Tryz.func291 rfl rfl rfl (by kernel_rfl) (by kernel_rfl) ?_
 try simp only [go_sem]
 cases h
 refine ret_i (.frzN [(0,[2]),(0,[3])] [] _ _ (by (first | rfl | (simp only [go_sem]; rfl))) (by (first | rfl | (simp only [go_sem]; rfl))) (.done _)) [] [] ?_
 simp only [go_sem]
 all_goals try rfl
theorem i_coreApp_ok (a0 : Core) (a1 : Core) (r : Core) (h : i_coreApp a0 a1 = some r) : AG Tryz.prog 403 [.agg [.int .i64 a0.kind,.int .i64 a0.value,.ro (List.map i64D a0.data),.ro (List.map Core.ds a0.kids)],.agg [.int .i64 a1.kind,.int .i64 a1.value,.ro (List.map i64D a1.data),.ro (List.map Core.ds a1.kids)]] [] [] (.agg [.int .i64 r.kind,.int .i64 r.value,.ro (List.map i64D r.data),.ro (List.map Core.ds r.kids)]) [] [] := by
 unfold i_coreApp at h
 refine ag_fn mixed Tryz.func403 rfl rfl rfl (by kernel_rfl) (by kernel_rfl) ?_
 try simp only [go_sem]
 cases h
 refine ret_i (.frzN [(0,[2])] [] _ _ (by (first | rfl | (simp only [go_sem]; rfl))) (by (first | rfl | (simp only [go_sem]; rfl))) (.frzB 2002 [(0,[3])] [(1002,3)] _ _ _ (by (first | rfl | (simp only [go_sem]; rfl))) (by decide) (by rfl) (by (first | rfl | (simp only [go_sem]; rfl))) (by (first | rfl | (simp only [go_sem]; rfl))) (.done _))) [] [] ?_
 simp only [go_sem]
 all_goals try rfl
theorem i_chosen_l2_ok (n : Nat) : (∀ (a1 : List Core) (p1_0 : Int) (p1_1 : Int) (p1_2 : List Int) (p1_3 : List Core) (p1_4 : Int) (r : Core),i_chosen_l2 n a1 p1_0 p1_1 p1_2 p1_3 p1_4 = some r → posG Tryz.prog Tryz.f290 [1,1,0,1,0] (.agg [.int .i64 r.kind,.int .i64 r.value,.ro (List.map i64D r.data),.ro (List.map Core.ds r.kids)]) [] [] ⟨[(4,.box 1000001500 0),(5,.box 1000001501 0),(10,.ro (List.map Core.ds a1)),(11,.int .i64 ((List.length a1 : Nat) : Int)),(12,.int .i64 p1_4)],[],[(1000001500,some [.int .i64 0,.int .i64 0,.nils,.nils]),(1000001501,some [.int .i64 p1_0,.int .i64 p1_1,.ro (List.map i64D p1_2),.ro (List.map Core.ds p1_3)])]⟩) := by
 induction n with
 | zero => exact ((fun _ _ _ _ _ _ _ h => by rw [i_chosen_l2] at h; cases h))
 | succ n ih =>
  have ih0 := ih
  ·intro a1 p1_0 p1_1 p1_2 p1_3 p1_4 r h
   rw [i_chosen_l2] at h
   refine posG_of rfl rfl ?_
   try simp only [go_sem]
   refine loop_i ?_
   try simp only [go_sem]
   refine cond_i (fun hb1 => ?_) (fun hb1 => ?_)
   ·replace h := ifT (c := (decide (p1_4 < ((List.length a1 : Nat) : Int)))) hb1 h
    try simp only [go_sem]
    refine seq_go ?_
    try simp only [go_sem]
    replace h := bindE h
    obtain ⟨v5000,hv5000,h⟩ := h
    refine idx_m hv5000 (Core.ds_len _) ?_
    try simp only [go_sem]
    replace h := bindE h
    obtain ⟨v6002,hv6002,h⟩ := h
    refine call_z (i_coreApp_ok _ _ _ hv6002) (by (first | rfl | (simp only [go_sem]; rfl))) (by first | rfl | (simp only [go_sem])) ?_
    try simp only [go_sem]
    refine seq_go ?_
    try simp only [go_sem]
    have hj := posG_to rfl rfl (ih0 a1 v6002.kind v6002.value v6002.data v6002.kids (IntKind.i64.wrap (p1_4 + 1)) _ h)
    refine lp_to hj (.one ⟨_,.done _,[],[(1000001500,1000001500),(1000001501,1000001501)],?_⟩)
    clear hj
    try simp only [go_sem]
   ·replace h := ifF (c := (decide (p1_4 < ((List.length a1 : Nat) : Int)))) hb1 h
    try simp only [go_sem]
    refine seq_go ?_
    try simp only [go_sem]
    cases h
    refine ret_i (.done _) [] [] ?_
    simp only [go_sem]
theorem i_chosen_ok (a0 : Int) (a1 : List Core) (r : Core) (h : i_chosen a0 a1 = some r) : AG Tryz.prog 290 [.int .i64 a0,.ro (List.map Core.ds a1)] [] [] (.agg [.int .i64 r.kind,.int .i64 r.value,.ro (List.map i64D r.data),.ro (List.map Core.ds r.kids)]) [] [] := by
 unfold i_chosen at h
 refine ag_fn mixed Tryz.func290 rfl rfl rfl (by kernel_rfl) (by kernel_rfl) ?_
 try simp only [go_sem]
 replace h := bindE h
 obtain ⟨v2001,hv2001,h⟩ := h
 refine call_z (i_coreRef_ok _ _ hv2001) (by (first | rfl | (simp only [go_sem]; rfl))) (by first | rfl | (simp only [go_sem])) ?_
 try simp only [go_sem]
 refine seq_go ?_
 try simp only [go_sem]
 have hj := posG_to rfl rfl (i_chosen_l2_ok fuel a1 v2001.kind v2001.value v2001.data v2001.kids 0 _ h)
 refine loop_to hj (.one ⟨_,.done _,[],[(1000001500,1000),(1000001501,2002)],?_⟩)
 clear hj
 try simp only [go_sem]
theorem g_Clone_simpl_Core_ok (a0 : List Core) (r : (List Core)) (h : g_Clone_simpl_Core a0 = some r) : AG Tryz.prog 293 [.ro (List.map Core.ds a0)] [] [] (.own 1501) [(1501,⟨List.map Core.dz r,some 4,0,true⟩)] [] := by
 unfold g_Clone_simpl_Core at h
 refine ag_fn mixed Tryz.func293 rfl rfl rfl (by kernel_rfl) (by kernel_rfl) ?_
 try simp only [go_sem]
 refine nil_i (by simp only [go_sem]) (fun h0 => ?_) ?_
 ·try simp only [go_sem]
  have hq_ := List.map_eq_nil_iff.1 h0
  obtain rfl := hq_
  obtain rfl : r = [] := by cases h; rfl
  simp only [go_sem]
  refine ret_i (.deep 0 2000000000 (some 4) true [] (by (first | rfl | (simp only [go_sem]; rfl))) (by simp only [go_sem]) (.done _)) [(1501,2000000000)] [] ?_
  simp only [go_sem]
  all_goals try rfl
 ·try simp only [go_sem]
  refine seq_go ?_
  try simp only [go_sem]
  replace h := bindE h
  obtain ⟨v4002,hv4002,h⟩ := h
  have hq_ := app_some hv4002
  obtain ⟨hv4002a,hv4002b⟩ := hq_
  refine zed_i true ?_
  try simp only [go_sem]
  refine and_i (ng_rows_of (by intro x; exact ⟨(Core.ds_len _),Core.dz_ng x⟩) _) ?_
  try simp only [go_sem]
  refine row_i (List.map Core.dz a0) (fzR_map Core.dz_fz _) ?_
  try simp only [go_sem]
  refine and_i (by refine ⟨?_,?_⟩ <;> (try simp only [List.length_map,List.length_append,List.length_cons,List.length_nil] at *) <;> (try unfold maxLen) <;> omega) ?_
  try simp only [go_sem]
  refine row_i (List.map Core.dz v4002) (by rw [← hv4002b]; simp only [List.map_append,List.map_cons,List.map_nil,List.nil_append,List.append_nil,go_sem,Core.ds_eq,Core.dz_eq]) ?_
  try simp only [go_sem]
  refine seq_go ?_
  try simp only [go_sem]
  cases h
  refine ret_i (.done _) [(1501,64032)] [] ?_
  simp only [go_sem]
theorem i_contract_ok (a0 : Book) (a1 : Int) (a2 : Core) (r : Core) (h : i_contract a0 a1 a2 = some r) : AG Tryz.prog 157 [.agg [.ro (List.map Core.ds a0.defs)],.int .i64 a1,.agg [.int .i64 a2.kind,.int .i64 a2.value,.ro (List.map i64D a2.data),.ro (List.map Core.ds a2.kids)]] [] [] (.agg [.int .i64 r.kind,.int .i64 r.value,.ro (List.map i64D r.data),.ro (List.map Core.ds r.kids)]) [] [] := by
 unfold i_contract at h
 refine ag_fn mixed Tryz.func157 rfl rfl rfl (by kernel_rfl) (by kernel_rfl) ?_
 try simp only [go_sem]
 refine cond_i (fun hb1 => ?_) (fun hb1 => ?_)
 ·replace h := ifT (c := (decide (a1 = 1))) hb1 h
  try simp only [go_sem]
  refine draw_i [false,false,false,false,false,false,false,false,false,false,false,false,true] (Tr.sq [12] .fin) (by kernel_rfl) ?_
  try simp only [go_sem]
  replace h := bindE h
  obtain ⟨v4002,hv4002,h⟩ := h
  refine idx_m hv4002 (Core.ds_len _) ?_
  try simp only [go_sem]
  replace h := bindE h
  obtain ⟨v4005,hv4005,h⟩ := h
  refine idx_m hv4005 (Core.ds_len _) ?_
  try simp only [go_sem]
  replace h := bindE h
  obtain ⟨v4009,hv4009,h⟩ := h
  refine idx_m hv4009 (Core.ds_len _) ?_
  try simp only [go_sem]
  replace h := bindE h
  obtain ⟨v4011,hv4011,h⟩ := h
  refine call_i (i_instantiate_ok _ _ _ hv4011) ?_
  try simp only [go_sem]
  refine seq_go ?_
  try simp only [go_sem]
  cases h
  refine ret_i (.frzT 64176 [(0,[2])] [(1002,2)] _ _ _ (by (first | rfl | (simp only [go_sem]; rfl))) (by decide) (by (first | rfl | (simp only [go_sem]; rfl))) (by (first | rfl | (simp only [go_sem]; rfl))) (.frzT 64177 [(0,[3])] [(1002,3)] _ _ _ (by (first | rfl | (simp only [go_sem]; rfl))) (by decide) (by (first | rfl | (simp only [go_sem]; rfl))) (by (first | rfl | (simp only [go_sem]; rfl))) (.done _))) [] [] ?_
  simp only [go_sem]
  all_goals try rfl
 ·replace h := ifF (c := (decide (a1 = 1))) hb1 h
  try simp only [go_sem]
  refine cond_i (fun hb2 => ?_) (fun hb2 => ?_)
  ·replace h := ifT (c := (decide (a1 = 2))) hb2 h
   try simp only [go_sem]
   refine draw_i [false,false,false,false,false,false,false,false,false,false,false,false,false,false,true] (Tr.sq [14] .fin) (by kernel_rfl) ?_
   try simp only [go_sem]
   replace h := bindE h
   obtain ⟨v6004,hv6004,h⟩ := h
   refine idx_m hv6004 (Core.ds_len _) ?_
   try simp only [go_sem]
   replace h := bindE h
   obtain ⟨v6009,hv6009,h⟩ := h
   refine idx_m hv6009 (Core.ds_len _) ?_
   try simp only [go_sem]
   replace h := bindE h
   obtain ⟨v6012,hv6012,h⟩ := h
   refine call_i (i_Operate_ok _ _ _ _ hv6012) ?_
   try simp only [go_sem]
   replace h := bindE h
   obtain ⟨v6013,hv6013,h⟩ := h
   refine call_z (i_coreNum_ok _ _ hv6013) (by (first | rfl | (simp only [go_sem]; rfl))) (by first | rfl | (simp only [go_sem])) ?_
   try simp only [go_sem]
   refine seq_go ?_
   try simp only [go_sem]
   cases h
   refine ret_i (.done _) [] [] ?_
   simp only [go_sem]
  ·replace h := ifF (c := (decide (a1 = 2))) hb2 h
   try simp only [go_sem]
   refine cond_i (fun hb3 => ?_) (fun hb3 => ?_)
   ·replace h := ifT (c := (decide (a1 = 3))) hb3 h
    try simp only [go_sem]
    refine cond_i (fun hb4 => ?_) (fun hb4 => ?_)
    ·replace h := ifT (c := (decide (a2.kind = 9))) hb4 h
     try simp only [go_sem]
     refine draw_i [false,false,false,false,false,false,false,false,false,false,false,false,false,false,false,true] (Tr.sq [15] .fin) (by kernel_rfl) ?_
     try simp only [go_sem]
     replace h := bindE h
     obtain ⟨v9004,hv9004,h⟩ := h
     refine idx_m hv9004 (Core.ds_len _) ?_
     try simp only [go_sem]
     replace h := bindE h
     obtain ⟨v9007,hv9007,h⟩ := h
     refine idx_m hv9007 rfl ?_
     try simp only [go_sem]
     replace h := bindE h
     obtain ⟨v9011,hv9011,h⟩ := h
     refine idx_m hv9011 (Core.ds_len _) ?_
     try simp only [go_sem]
     replace h := bindE h
     obtain ⟨v9014,hv9014,h⟩ := h
     refine call_z (i_chosen_ok _ _ _ hv9014) (by (first | rfl | (simp only [go_sem]; rfl))) (by first | rfl | (simp only [go_sem])) ?_
     try simp only [go_sem]
     refine seq_go ?_
     try simp only [go_sem]
     cases h
     refine ret_i (.done _) [] [] ?_
     simp only [go_sem]
    ·replace h := ifF (c := (decide (a2.kind = 9))) hb4 h
     try simp only [go_sem]
     refine seq_go ?_
     try simp only [go_sem]
     refine draw_i [false,false,false,false,false,false,false,false,false,false,false,false,true] (Tr.sq [12] .fin) (by kernel_rfl) ?_
     try simp only [go_sem]
     replace h := bindE h
     obtain ⟨v10004,hv10004,h⟩ := h
     refine idx_m hv10004 (Core.ds_len _) ?_
     try simp only [go_sem]
     replace h := bindE h
     obtain ⟨v10008,hv10008,h⟩ := h
     refine call_i (i_truth_ok _ _ hv10008) ?_
     try simp only [go_sem]
     replace h := bindE h
     obtain ⟨v10009,hv10009,h⟩ := h
     refine idx_m hv10009 rfl ?_
     try simp only [go_sem]
     replace h := bindE h
     obtain ⟨v10011,hv10011,h⟩ := h
     refine call_z (i_coreRef_ok _ _ hv10011) (by (first | rfl | (simp only [go_sem]; rfl))) (by first | rfl | (simp only [go_sem])) ?_
     try simp only [go_sem]
     refine seq_go ?_
     try simp only [go_sem]
     cases h
     refine ret_i (.done _) [] [] ?_
     simp only [go_sem]
   ·replace h := ifF (c := (decide (a1 = 3))) hb3 h
    try simp only [go_sem]
    refine seq_go ?_
    try simp only [go_sem]
    refine draw_i [false,false,false,false,false,false,false,false,false,false,false,true] (Tr.sq [11] .fin) (by kernel_rfl) ?_
    try simp only [go_sem]
    replace h := bindE h
    obtain ⟨v11008,hv11008,h⟩ := h
    refine call_zt (g_Clone_simpl_Core_ok _ _ hv11008) (by (first | rfl | (simp only [go_sem]; rfl))) ?_
    try simp only [go_sem]
    refine seq_go ?_
    try simp only [go_sem]
    replace h := bindE h
    obtain ⟨v12002,hv12002,h⟩ := h
    refine idx_m hv12002 (Core.ds_len _) ?_
    try simp only [go_sem]
    replace h := bindE h
    obtain ⟨v12006,hv12006,h⟩ := h
    refine call_i (i_truth_ok _ _ hv12006) ?_
    try simp only [go_sem]
    refine seq_go ?_
    try simp only [go_sem]
    refine draw_i [false,false,false,false,false,false,false,false,false,false,false,false,false,false,true] (Tr.sq [14] .fin) (by kernel_rfl) ?_
    try simp only [go_sem]
    replace h := bindE h
    obtain ⟨v13008,hv13008,h⟩ := h
    refine idx_m hv13008 (Core.ds_len _) ?_
    try simp only [go_sem]
    replace h := bindE h
    obtain ⟨v13011,hv13011,h⟩ := h
    refine idx_m hv13011 (Core.ds_len _) ?_
    try simp only [go_sem]
    replace h := bindE h
    obtain ⟨v13013,hv13013,h⟩ := h
    refine idx_m hv13013 (Core.dz_len _) ?_
    try simp only [go_sem]
    replace h := bindE h
    obtain ⟨v13014_2,hv13014_2,h⟩ := h
    refine opt_i (row_m hv13013) ?_
    try simp only [go_sem]
    refine row_i (List.map Core.dz v13014_2) (by rw [← set1_some hv13014_2]; simp only [List.map_set,go_sem,Core.ds_eq,Core.dz_eq]) ?_
    try simp only [go_sem]
    refine seq_go ?_
    try simp only [go_sem]
    cases h
    refine ret_i (.frzT 176128 [(0,[3])] [(1002,3),(11010,3)] _ _ _ (by (first | rfl | (simp only [go_sem]; rfl))) (by decide) (by (first | rfl | (simp only [go_sem]; rfl))) (by (first | rfl | (simp only [go_sem]; rfl))) (.done _)) [] [] ?_
    simp only [go_sem]
    all_goals try rfl
theorem i_copyCore_all (n : Nat) : (∀ (a0 : Core) (r : Core),i_copyCore n a0 = some r → AC Tryz.prog 68 [.agg (Core.avs a0)] (.agg (Core.rv r))) ∧
    (∀ (a0 : Core) (v2006 : (List Int)) (p1_0 : List Core) (p1_1 : Int) (r : Core),i_copyCore_l2 n a0 v2006 p1_0 p1_1 = some r → posF Tryz.prog Tryz.f68 [1,1,0,1,0] (.agg (Core.rv r)) ⟨[(2,.box 1000001500 0),(3,.box 1000001501 0),(15,.ro (List.map Core.ds a0.kids)),(16,.int .i64 ((List.length a0.kids : Nat) : Int)),(17,.int .i64 p1_1)],[(1000001000,some ⟨List.map i64D v2006,some 1,0,false⟩),(1000001001,some ⟨List.map Core.ds p1_0,some 4,0,false⟩)],[(1000001500,some [.int .i64 0,.int .i64 0,.nils,.nils]),(1000001501,some [.int .i64 a0.kind,.int .i64 a0.value,.own 1000001000,.own 1000001001])]⟩) := by
 induction n with
 | zero => exact ⟨(fun _ _ h => by rw [i_copyCore] at h; cases h),(fun _ _ _ _ _ h => by rw [i_copyCore_l2] at h; cases h)⟩
 | succ n ih =>
  obtain ⟨ih0,ih1⟩ := ih
  refine ⟨?_,?_⟩
  ·intro a0 r h
   rw [i_copyCore] at h
   refine ac_fn mixed Tryz.func68 rfl rfl rfl (by kernel_rfl) (by kernel_rfl) ?_
   try simp only [go_sem]
   refine draw_i [false,false,false,false,false,false,false,false,false,true] (Tr.sq [9] .fin) (by kernel_rfl) ?_
   try simp only [go_sem]
   replace h := bindE h
   obtain ⟨v2006,hv2006,h⟩ := h
   refine call_i (g_Clone_sint64_ok _ _ hv2006) ?_
   try simp only [go_sem]
   refine seq_go ?_
   try simp only [go_sem]
   have hj := posF_to rfl rfl (ih1 a0 v2006 [] 0 _ h)
   refine loop_to hj (.one ⟨_,.cell 2008 3 2000000000 (some 4) false _ (by simp only [go_sem]; rfl) (by rfl) (by simp only [go_sem]) (.done _),[(1000001000,32096),(1000001001,2000000000)],[(1000001500,1001),(1000001501,2008)],?_⟩)
   clear hj
   simp only [go_sem]
   all_goals try rfl
  ·intro a0 v2006 p1_0 p1_1 r h
   rw [i_copyCore_l2] at h
   refine posF_of rfl rfl ?_
   try simp only [go_sem]
   refine loop_i ?_
   try simp only [go_sem]
   refine cond_i (fun hb1 => ?_) (fun hb1 => ?_)
   ·replace h := ifT (c := (decide (p1_1 < ((List.length a0.kids : Nat) : Int)))) hb1 h
    try simp only [go_sem]
    refine seq_go ?_
    try simp only [go_sem]
    replace h := bindE h
    obtain ⟨v5000,hv5000,h⟩ := h
    refine idx_m hv5000 (Core.ds_len _) ?_
    try simp only [go_sem]
    refine draw_i [false,false,false,false,false,true,true,true] (Tr.sq [5,6,7] .fin) (by kernel_rfl) ?_
    try simp only [go_sem]
    replace h := bindE h
    obtain ⟨v6003,hv6003,h⟩ := h
    refine call_i (ih0 _ _ hv6003) ?_
    try simp only [go_sem]
    replace h := bindE h
    obtain ⟨v6005,hv6005,h⟩ := h
    have hq_ := app_some hv6005
    obtain ⟨hv6005a,hv6005b⟩ := hq_
    refine zed_i false ?_
    try simp only [go_sem]
    refine and_i (by refine ⟨?_,?_⟩ <;> (try simp only [List.length_map,List.length_append,List.length_cons,List.length_nil] at *) <;> (try unfold maxLen) <;> omega) ?_
    try simp only [go_sem]
    refine row_i (List.map Core.ds v6005) (by rw [← hv6005b]; simp only [List.map_append,List.map_cons,List.map_nil,List.nil_append,List.append_nil,go_sem,Core.ds_eq]) ?_
    try simp only [go_sem]
    refine seq_go ?_
    try simp only [go_sem]
    have hj := posF_to rfl rfl (ih1 a0 v2006 v6005 (IntKind.i64.wrap (p1_1 + 1)) _ h)
    refine lp_to hj (.one ⟨_,.done _,[(1000001000,1000001000),(1000001001,96080)],[(1000001500,1000001500),(1000001501,1000001501)],?_⟩)
    clear hj
    try simp only [go_sem]
   ·replace h := ifF (c := (decide (p1_1 < ((List.length a0.kids : Nat) : Int)))) hb1 h
    try simp only [go_sem]
    refine seq_go ?_
    try simp only [go_sem]
    cases h
    simp only [go_sem]
theorem i_copyCore_ok (n : Nat) : (∀ (a0 : Core) (r : Core),i_copyCore n a0 = some r → AC Tryz.prog 68 [.agg (Core.avs a0)] (.agg (Core.rv r))) := (i_copyCore_all n).1
end Go.Proofs.YtjdinbgcgbigoaaGreat.Ab
