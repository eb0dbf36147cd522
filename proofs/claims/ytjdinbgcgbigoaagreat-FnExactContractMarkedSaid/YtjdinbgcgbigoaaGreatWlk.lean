/-
 The functions do what their models say. Printed by wip/ab/gen.py.
-/
import Derived.Test.YtjdinbgcgbigoaaGreatMod
import Derived.Test.YtjdinbgcgbigoaaGreatTi2
namespace Go.Proofs.YtjdinbgcgbigoaaGreat.Ab
set_option linter.unusedVariables false
set_option linter.unusedSimpArgs false
set_option maxRecDepth 20000
set_option maxHeartbeats 4000000
open Go.RowKit
theorem l_szInt64S_ok (a0 : List Int) (a1 : Int) (r : Int) (h : l_szInt64S a0 a1 = some r) : AC Tryz.prog 61 [.ro (List.map i64D a0),.int .i64 a1] (.int .i64 r) := by
 unfold l_szInt64S at h
 refine ac_fn mixed Tryz.func61 rfl rfl rfl (by kernel_rfl) (by kernel_rfl) ?_
 try simp only [go_sem]
 refine cond_i (fun hb1 => ?_) (fun hb1 => ?_)
 ·replace h := ifT (c := (decide ((IntKind.i64.wrap (a1 - ((List.length a0 : Nat) : Int))) < 0))) hb1 h
  try simp only [go_sem]
  cases h
  simp only [go_sem]
 ·replace h := ifF (c := (decide ((IntKind.i64.wrap (a1 - ((List.length a0 : Nat) : Int))) < 0))) hb1 h
  try simp only [go_sem]
  refine seq_go ?_
  try simp only [go_sem]
  cases h
  simp only [go_sem]
theorem l_szCoreS_all (n : Nat) : (∀ (a0 : List Core) (a1 : Int) (r : Int),l_szCoreS n a0 a1 = some r → AC Tryz.prog 60 [.ro (List.map Core.ds a0),.int .i64 a1] (.int .i64 r)) ∧
    (∀ (a0 : List Core) (p0_0 : Int) (p0_1 : Int) (r : Int),l_szCoreS_l1 n a0 p0_0 p0_1 = some r → posF Tryz.prog Tryz.f60 [1,1,1,0,1,0] (.int .i64 r) ⟨[(0,.ro (List.map Core.ds a0)),(1,.int .i64 p0_0),(5,.int .i64 p0_1)],[],[]⟩) ∧
    (∀ (a0 : Core) (a1 : Int) (r : Int),l_szCore n a0 a1 = some r → AC Tryz.prog 12 [.agg (Core.avs a0),.int .i64 a1] (.int .i64 r)) := by
 induction n with
 | zero => exact ⟨(fun _ _ _ h => by rw [l_szCoreS] at h; cases h),(fun _ _ _ _ h => by rw [l_szCoreS_l1] at h; cases h),(fun _ _ _ h => by rw [l_szCore] at h; cases h)⟩
 | succ n ih =>
  obtain ⟨ih0,ih1,ih2⟩ := ih
  refine ⟨?_,?_,?_⟩
  ·intro a0 a1 r h
   rw [l_szCoreS] at h
   refine ac_fn mixed Tryz.func60 rfl rfl rfl (by kernel_rfl) (by kernel_rfl) ?_
   try simp only [go_sem]
   refine cond_i (fun hb1 => ?_) (fun hb1 => ?_)
   ·replace h := ifT (c := (decide ((IntKind.i64.wrap (a1 - ((List.length a0 : Nat) : Int))) < 0))) hb1 h
    try simp only [go_sem]
    cases h
    simp only [go_sem]
   ·replace h := ifF (c := (decide ((IntKind.i64.wrap (a1 - ((List.length a0 : Nat) : Int))) < 0))) hb1 h
    try simp only [go_sem]
    refine seq_go ?_
    try simp only [go_sem]
    have hj := posF_to rfl rfl (ih1 a0 (IntKind.i64.wrap (a1 - ((List.length a0 : Nat) : Int))) 0 _ h)
    refine loop_to hj (.one ⟨_,.done _,[],[],?_⟩)
    clear hj
    try simp only [go_sem]
  ·intro a0 p0_0 p0_1 r h
   rw [l_szCoreS_l1] at h
   refine posF_of rfl rfl ?_
   try simp only [go_sem]
   refine loop_i ?_
   try simp only [go_sem]
   refine cond_i (fun hb2 => ?_) (fun hb2 => ?_)
   ·replace h := ifT (c := (decide (p0_1 < ((List.length a0 : Nat) : Int)))) hb2 h
    try simp only [go_sem]
    refine seq_go ?_
    try simp only [go_sem]
    replace h := bindE h
    obtain ⟨v8002,hv8002,h⟩ := h
    refine idx_m hv8002 (Core.ds_len _) ?_
    try simp only [go_sem]
    replace h := bindE h
    obtain ⟨v8005,hv8005,h⟩ := h
    refine call_i (ih2 _ _ _ hv8005) ?_
    try simp only [go_sem]
    refine seq_go ?_
    try simp only [go_sem]
    refine cond_i (fun hb3 => ?_) (fun hb3 => ?_)
    ·replace h := ifT (c := (decide (v8005 < 0))) hb3 h
     try simp only [go_sem]
     cases h
     simp only [go_sem]
    ·replace h := ifF (c := (decide (v8005 < 0))) hb3 h
     try simp only [go_sem]
     refine seq_go ?_
     try simp only [go_sem]
     have hj := posF_to rfl rfl (ih1 a0 v8005 (IntKind.i64.wrap (p0_1 + 1)) _ h)
     refine lp_to hj (.one ⟨_,.done _,[],[],?_⟩)
     clear hj
     try simp only [go_sem]
   ·replace h := ifF (c := (decide (p0_1 < ((List.length a0 : Nat) : Int)))) hb2 h
    try simp only [go_sem]
    refine seq_go ?_
    try simp only [go_sem]
    cases h
    simp only [go_sem]
  ·intro a0 a1 r h
   rw [l_szCore] at h
   refine ac_fn mixed Tryz.func12 rfl rfl rfl (by kernel_rfl) (by kernel_rfl) ?_
   try simp only [go_sem]
   replace h := bindE h
   obtain ⟨v2003,hv2003,h⟩ := h
   refine call_i (l_szInt64S_ok _ _ _ hv2003) ?_
   try simp only [go_sem]
   refine seq_go ?_
   try simp only [go_sem]
   refine cond_i (fun hb1 => ?_) (fun hb1 => ?_)
   ·replace h := ifT (c := (decide (v2003 < 0))) hb1 h
    try simp only [go_sem]
    cases h
    simp only [go_sem]
   ·replace h := ifF (c := (decide (v2003 < 0))) hb1 h
    try simp only [go_sem]
    refine seq_go ?_
    try simp only [go_sem]
    replace h := bindE h
    obtain ⟨v5003,hv5003,h⟩ := h
    refine call_i (ih0 _ _ _ hv5003) ?_
    try simp only [go_sem]
    refine seq_go ?_
    try simp only [go_sem]
    refine cond_i (fun hb2 => ?_) (fun hb2 => ?_)
    ·replace h := ifT (c := (decide (v5003 < 0))) hb2 h
     try simp only [go_sem]
     cases h
     simp only [go_sem]
    ·replace h := ifF (c := (decide (v5003 < 0))) hb2 h
     try simp only [go_sem]
     refine seq_go ?_
     try simp only [go_sem]
     cases h
     simp only [go_sem]
theorem l_szCoreS_ok (n : Nat) : (∀ (a0 : List Core) (a1 : Int) (r : Int),l_szCoreS n a0 a1 = some r → AC Tryz.prog 60 [.ro (List.map Core.ds a0),.int .i64 a1] (.int .i64 r)) := (l_szCoreS_all n).1
theorem l_szCore_ok (n : Nat) : (∀ (a0 : Core) (a1 : Int) (r : Int),l_szCore n a0 a1 = some r → AC Tryz.prog 12 [.agg (Core.avs a0),.int .i64 a1] (.int .i64 r)) := (l_szCoreS_all n).2.2
theorem l_toInt64S_l2_ok (n : Nat) : (∀ (a0 : List Int) (p1_0 : List Int) (p1_1 : Int) (r : (List Int)),l_toInt64S_l2 n a0 p1_0 p1_1 = some r → posF Tryz.prog Tryz.f23 [1,1,0,1,0] (.ow (some 1) (List.map i64D r)) ⟨[(0,.ro (List.map i64D a0)),(3,.own 1000001000),(4,.int .i64 p1_1)],[(1000001000,some ⟨List.map i64D p1_0,some 1,0,false⟩)],[]⟩) := by
 induction n with
 | zero => exact ((fun _ _ _ _ h => by rw [l_toInt64S_l2] at h; cases h))
 | succ n ih =>
  have ih0 := ih
  ·intro a0 p1_0 p1_1 r h
   rw [l_toInt64S_l2] at h
   refine posF_of rfl rfl ?_
   try simp only [go_sem]
   refine loop_i ?_
   try simp only [go_sem]
   refine cond_i (fun hb1 => ?_) (fun hb1 => ?_)
   ·replace h := ifT (c := (decide (p1_1 < ((List.length a0 : Nat) : Int)))) hb1 h
    try simp only [go_sem]
    refine seq_go ?_
    try simp only [go_sem]
    replace h := bindE h
    obtain ⟨v6004,hv6004,h⟩ := h
    refine idx_m hv6004 rfl ?_
    try simp only [go_sem]
    replace h := bindE h
    obtain ⟨v6006,hv6006,h⟩ := h
    refine idx_m hv6006 rfl ?_
    try simp only [go_sem]
    replace h := bindE h
    obtain ⟨v6007_12,hv6007_12,h⟩ := h
    refine opt_i (row_m hv6006) ?_
    try simp only [go_sem]
    refine row_i (List.map i64D v6007_12) (by rw [← set1_some hv6007_12]; simp only [List.map_set,go_sem,slD]) ?_
    try simp only [go_sem]
    refine seq_go ?_
    try simp only [go_sem]
    have hj := posF_to rfl rfl (ih0 a0 v6007_12 (IntKind.i64.wrap (p1_1 + 1)) _ h)
    refine lp_to hj (.one ⟨_,.done _,[(1000001000,1000001000)],[],?_⟩)
    clear hj
    try simp only [go_sem]
   ·replace h := ifF (c := (decide (p1_1 < ((List.length a0 : Nat) : Int)))) hb1 h
    try simp only [go_sem]
    refine seq_go ?_
    try simp only [go_sem]
    cases h
    simp only [go_sem]
theorem l_toInt64S_ok (a0 : List Int) (r : (List Int)) (h : l_toInt64S a0 = some r) : AC Tryz.prog 23 [.ro (List.map i64D a0)] (.ow (some 1) (List.map i64D r)) := by
 unfold l_toInt64S at h
 refine ac_fn mixed Tryz.func23 rfl rfl rfl (by kernel_rfl) (by kernel_rfl) ?_
 try simp only [go_sem]
 replace h := bindE h
 obtain ⟨v2002,hv2002,h⟩ := h
 have hq_ := rep_some hv2002
 obtain ⟨hv2002a,hv2002b,hv2002c⟩ := hq_
 refine and_i (by refine ⟨?_,?_,?_⟩ <;> omega) ?_
 try simp only [go_sem]
 refine row_i (List.map i64D v2002) (by rw [← hv2002c]; simp only [List.map_replicate,go_sem,slD]) ?_
 try simp only [go_sem]
 refine seq_go ?_
 try simp only [go_sem]
 have hj := posF_to rfl rfl (l_toInt64S_l2_ok fuel a0 v2002 0 _ h)
 refine loop_to hj (.one ⟨_,.done _,[(1000001000,32032)],[],?_⟩)
 clear hj
 try simp only [go_sem]
theorem l_toCoreS_all (n : Nat) : (∀ (a0 : List Core) (r : (List Core)),l_toCoreS n a0 = some r → AC Tryz.prog 65 [.ro (List.map Core.ds a0)] (.ow (some 4) (List.map Core.ds r))) ∧
    (∀ (a0 : List Core) (p1_0 : List Core) (p1_1 : Int) (r : (List Core)),l_toCoreS_l2 n a0 p1_0 p1_1 = some r → posF Tryz.prog Tryz.f65 [1,1,0,1,0] (.ow (some 4) (List.map Core.ds r)) ⟨[(0,.ro (List.map Core.ds a0)),(3,.own 1000001000),(4,.int .i64 p1_1)],[(1000001000,some ⟨List.map Core.ds p1_0,some 4,0,false⟩)],[]⟩) ∧
    (∀ (a0 : Core) (r : Core),l_toCore n a0 = some r → AC Tryz.prog 15 [.agg (Core.avs a0)] (.agg (Core.rv r))) := by
 induction n with
 | zero => exact ⟨(fun _ _ h => by rw [l_toCoreS] at h; cases h),(fun _ _ _ _ h => by rw [l_toCoreS_l2] at h; cases h),(fun _ _ h => by rw [l_toCore] at h; cases h)⟩
 | succ n ih =>
  obtain ⟨ih0,ih1,ih2⟩ := ih
  refine ⟨?_,?_,?_⟩
  ·intro a0 r h
   rw [l_toCoreS] at h
   refine ac_fn mixed Tryz.func65 rfl rfl rfl (by kernel_rfl) (by kernel_rfl) ?_
   try simp only [go_sem]
   replace h := bindE h
   obtain ⟨v2002,hv2002,h⟩ := h
   have hq_ := rep_some hv2002
   obtain ⟨hv2002a,hv2002b,hv2002c⟩ := hq_
   refine and_i (by refine ⟨?_,?_,?_⟩ <;> omega) ?_
   try simp only [go_sem]
   refine row_i (List.map Core.ds v2002) (by rw [← hv2002c]; simp only [List.map_replicate,go_sem,Core.ds_eq]) ?_
   try simp only [go_sem]
   refine seq_go ?_
   try simp only [go_sem]
   have hj := posF_to rfl rfl (ih1 a0 v2002 0 _ h)
   refine loop_to hj (.one ⟨_,.done _,[(1000001000,32032)],[],?_⟩)
   clear hj
   try simp only [go_sem]
  ·intro a0 p1_0 p1_1 r h
   rw [l_toCoreS_l2] at h
   refine posF_of rfl rfl ?_
   try simp only [go_sem]
   refine loop_i ?_
   try simp only [go_sem]
   refine cond_i (fun hb1 => ?_) (fun hb1 => ?_)
   ·replace h := ifT (c := (decide (p1_1 < ((List.length a0 : Nat) : Int)))) hb1 h
    try simp only [go_sem]
    refine seq_go ?_
    try simp only [go_sem]
    replace h := bindE h
    obtain ⟨v6004,hv6004,h⟩ := h
    refine idx_m hv6004 (Core.ds_len _) ?_
    try simp only [go_sem]
    replace h := bindE h
    obtain ⟨v6006,hv6006,h⟩ := h
    refine call_i (ih2 _ _ hv6006) ?_
    try simp only [go_sem]
    replace h := bindE h
    obtain ⟨v6007,hv6007,h⟩ := h
    refine idx_m hv6007 (Core.ds_len _) ?_
    try simp only [go_sem]
    replace h := bindE h
    obtain ⟨v6008_12,hv6008_12,h⟩ := h
    refine opt_i (row_m hv6007) ?_
    try simp only [go_sem]
    refine row_i (List.map Core.ds v6008_12) (by rw [← set1_some hv6008_12]; simp only [List.map_set,go_sem,Core.ds_eq]) ?_
    try simp only [go_sem]
    refine seq_go ?_
    try simp only [go_sem]
    have hj := posF_to rfl rfl (ih1 a0 v6008_12 (IntKind.i64.wrap (p1_1 + 1)) _ h)
    refine lp_to hj (.one ⟨_,.done _,[(1000001000,1000001000)],[],?_⟩)
    clear hj
    try simp only [go_sem]
   ·replace h := ifF (c := (decide (p1_1 < ((List.length a0 : Nat) : Int)))) hb1 h
    try simp only [go_sem]
    refine seq_go ?_
    try simp only [go_sem]
    cases h
    simp only [go_sem]
  ·intro a0 r h
   rw [l_toCore] at h
   refine ac_fn mixed Tryz.func15 rfl rfl rfl (by kernel_rfl) (by kernel_rfl) ?_
   try simp only [go_sem]
   replace h := bindE h
   obtain ⟨v5002,hv5002,h⟩ := h
   refine call_i (l_toInt64S_ok _ _ hv5002) ?_
   try simp only [go_sem]
   refine seq_go ?_
   try simp only [go_sem]
   replace h := bindE h
   obtain ⟨v6002,hv6002,h⟩ := h
   refine call_i (ih0 _ _ hv6002) ?_
   try simp only [go_sem]
   refine seq_go ?_
   try simp only [go_sem]
   cases h
   simp only [go_sem]
theorem l_toCoreS_ok (n : Nat) : (∀ (a0 : List Core) (r : (List Core)),l_toCoreS n a0 = some r → AC Tryz.prog 65 [.ro (List.map Core.ds a0)] (.ow (some 4) (List.map Core.ds r))) := (l_toCoreS_all n).1
theorem l_toCore_ok (n : Nat) : (∀ (a0 : Core) (r : Core),l_toCore n a0 = some r → AC Tryz.prog 15 [.agg (Core.avs a0)] (.agg (Core.rv r))) := (l_toCoreS_all n).2.2
theorem l_eqInt64S_l1_ok (n : Nat) : (∀ (a0 : List Int) (a1 : List Int) (p0_0 : Int) (r : Bool),l_eqInt64S_l1 n a0 a1 p0_0 = some r → posF Tryz.prog Tryz.f25 [1,1,0,1,0] (.bool r) ⟨[(0,.ro (List.map i64D a0)),(1,.ro (List.map i64D a1)),(5,.int .i64 p0_0)],[],[]⟩) := by
 induction n with
 | zero => exact ((fun _ _ _ _ h => by rw [l_eqInt64S_l1] at h; cases h))
 | succ n ih =>
  have ih0 := ih
  ·intro a0 a1 p0_0 r h
   rw [l_eqInt64S_l1] at h
   refine posF_of rfl rfl ?_
   try simp only [go_sem]
   refine loop_i ?_
   try simp only [go_sem]
   refine cond_i (fun hb2 => ?_) (fun hb2 => ?_)
   ·replace h := ifT (c := (decide (p0_0 < ((List.length a0 : Nat) : Int)))) hb2 h
    try simp only [go_sem]
    refine seq_go ?_
    try simp only [go_sem]
    refine draw_i [] .fin (by kernel_rfl) ?_
    try simp only [go_sem]
    replace h := bindE h
    obtain ⟨v7002,hv7002,h⟩ := h
    refine idx_m hv7002 rfl ?_
    try simp only [go_sem]
    replace h := bindE h
    obtain ⟨v7006,hv7006,h⟩ := h
    refine idx_m hv7006 rfl ?_
    try simp only [go_sem]
    refine seq_go ?_
    try simp only [go_sem]
    refine cond_i (fun hb3 => ?_) (fun hb3 => ?_)
    ·replace h := ifT (c := (!decide (v7002 = v7006))) hb3 h
     try simp only [go_sem]
     cases h
     simp only [go_sem]
    ·replace h := ifF (c := (!decide (v7002 = v7006))) hb3 h
     try simp only [go_sem]
     refine seq_go ?_
     try simp only [go_sem]
     have hj := posF_to rfl rfl (ih0 a0 a1 (IntKind.i64.wrap (p0_0 + 1)) _ h)
     refine lp_to hj (.one ⟨_,.done _,[],[],?_⟩)
     clear hj
     try simp only [go_sem]
   ·replace h := ifF (c := (decide (p0_0 < ((List.length a0 : Nat) : Int)))) hb2 h
    try simp only [go_sem]
    refine seq_go ?_
    try simp only [go_sem]
    cases h
    simp only [go_sem]
theorem l_eqInt64S_ok (a0 : List Int) (a1 : List Int) (r : Bool) (h : l_eqInt64S a0 a1 = some r) : AC Tryz.prog 25 [.ro (List.map i64D a0),.ro (List.map i64D a1)] (.bool r) := by
 unfold l_eqInt64S at h
 refine ac_fn mixed Tryz.func25 rfl rfl rfl (by kernel_rfl) (by kernel_rfl) ?_
 try simp only [go_sem]
 refine cond_i (fun hb1 => ?_) (fun hb1 => ?_)
 ·replace h := ifT (c := (!decide (((List.length a0 : Nat) : Int) = ((List.length a1 : Nat) : Int)))) hb1 h
  try simp only [go_sem]
  cases h
  simp only [go_sem]
 ·replace h := ifF (c := (!decide (((List.length a0 : Nat) : Int) = ((List.length a1 : Nat) : Int)))) hb1 h
  try simp only [go_sem]
  refine seq_go ?_
  try simp only [go_sem]
  have hj := posF_to rfl rfl (l_eqInt64S_l1_ok fuel a0 a1 0 _ h)
  refine loop_to hj (.one ⟨_,.done _,[],[],?_⟩)
  clear hj
  try simp only [go_sem]
theorem l_eqCoreS_all (n : Nat) : (∀ (a0 : List Core) (a1 : List Core) (r : Bool),l_eqCoreS n a0 a1 = some r → AC Tryz.prog 69 [.ro (List.map Core.ds a0),.ro (List.map Core.ds a1)] (.bool r)) ∧
    (∀ (a0 : List Core) (a1 : List Core) (p0_0 : Int) (r : Bool),l_eqCoreS_l1 n a0 a1 p0_0 = some r → posF Tryz.prog Tryz.f69 [1,1,0,1,0] (.bool r) ⟨[(0,.ro (List.map Core.ds a0)),(1,.ro (List.map Core.ds a1)),(5,.int .i64 p0_0)],[],[]⟩) ∧
    (∀ (a0 : Core) (a1 : Core) (r : Bool),l_eqCore n a0 a1 = some r → AC Tryz.prog 17 [.agg (Core.avs a0),.agg (Core.avs a1)] (.bool r)) := by
 induction n with
 | zero => exact ⟨(fun _ _ _ h => by rw [l_eqCoreS] at h; cases h),(fun _ _ _ _ h => by rw [l_eqCoreS_l1] at h; cases h),(fun _ _ _ h => by rw [l_eqCore] at h; cases h)⟩
 | succ n ih =>
  obtain ⟨ih0,ih1,ih2⟩ := ih
  refine ⟨?_,?_,?_⟩
  ·intro a0 a1 r h
   rw [l_eqCoreS] at h
   refine ac_fn mixed Tryz.func69 rfl rfl rfl (by kernel_rfl) (by kernel_rfl) ?_
   try simp only [go_sem]
   refine cond_i (fun hb1 => ?_) (fun hb1 => ?_)
   ·replace h := ifT (c := (!decide (((List.length a0 : Nat) : Int) = ((List.length a1 : Nat) : Int)))) hb1 h
    try simp only [go_sem]
    cases h
    simp only [go_sem]
   ·replace h := ifF (c := (!decide (((List.length a0 : Nat) : Int) = ((List.length a1 : Nat) : Int)))) hb1 h
    try simp only [go_sem]
    refine seq_go ?_
    try simp only [go_sem]
    have hj := posF_to rfl rfl (ih1 a0 a1 0 _ h)
    refine loop_to hj (.one ⟨_,.done _,[],[],?_⟩)
    clear hj
    try simp only [go_sem]
  ·intro a0 a1 p0_0 r h
   rw [l_eqCoreS_l1] at h
   refine posF_of rfl rfl ?_
   try simp only [go_sem]
   refine loop_i ?_
   try simp only [go_sem]
   refine cond_i (fun hb2 => ?_) (fun hb2 => ?_)
   ·replace h := ifT (c := (decide (p0_0 < ((List.length a0 : Nat) : Int)))) hb2 h
    try simp only [go_sem]
    refine seq_go ?_
    try simp only [go_sem]
    refine draw_i [] .fin (by kernel_rfl) ?_
    try simp only [go_sem]
    replace h := bindE h
    obtain ⟨v7002,hv7002,h⟩ := h
    refine idx_m hv7002 (Core.ds_len _) ?_
    try simp only [go_sem]
    replace h := bindE h
    obtain ⟨v7006,hv7006,h⟩ := h
    refine idx_m hv7006 (Core.ds_len _) ?_
    try simp only [go_sem]
    replace h := bindE h
    obtain ⟨v7008,hv7008,h⟩ := h
    refine call_i (ih2 _ _ _ hv7008) ?_
    try simp only [go_sem]
    refine seq_go ?_
    try simp only [go_sem]
    refine cond_i (fun hb3 => ?_) (fun hb3 => ?_)
    ·replace h := ifT (c := (!v7008)) hb3 h
     try simp only [go_sem]
     cases h
     simp only [go_sem]
    ·replace h := ifF (c := (!v7008)) hb3 h
     try simp only [go_sem]
     refine seq_go ?_
     try simp only [go_sem]
     have hj := posF_to rfl rfl (ih1 a0 a1 (IntKind.i64.wrap (p0_0 + 1)) _ h)
     refine lp_to hj (.one ⟨_,.done _,[],[],?_⟩)
     clear hj
     try simp only [go_sem]
   ·replace h := ifF (c := (decide (p0_0 < ((List.length a0 : Nat) : Int)))) hb2 h
    try simp only [go_sem]
    refine seq_go ?_
    try simp only [go_sem]
    cases h
    simp only [go_sem]
  ·intro a0 a1 r h
   rw [l_eqCore] at h
   refine ac_fn mixed Tryz.func17 rfl rfl rfl (by kernel_rfl) (by kernel_rfl) ?_
   try simp only [go_sem]
   refine cond_i (fun hb1 => ?_) (fun hb1 => ?_)
   ·replace h := ifT (c := (!decide (a0.kind = a1.kind))) hb1 h
    try simp only [go_sem]
    cases h
    simp only [go_sem]
   ·replace h := ifF (c := (!decide (a0.kind = a1.kind))) hb1 h
    try simp only [go_sem]
    refine seq_go ?_
    try simp only [go_sem]
    refine cond_i (fun hb2 => ?_) (fun hb2 => ?_)
    ·replace h := ifT (c := (!decide (a0.value = a1.value))) hb2 h
     try simp only [go_sem]
     cases h
     simp only [go_sem]
    ·replace h := ifF (c := (!decide (a0.value = a1.value))) hb2 h
     try simp only [go_sem]
     refine seq_go ?_
     try simp only [go_sem]
     replace h := bindE h
     obtain ⟨v6004,hv6004,h⟩ := h
     refine call_i (l_eqInt64S_ok _ _ _ hv6004) ?_
     try simp only [go_sem]
     refine seq_go ?_
     try simp only [go_sem]
     refine cond_i (fun hb3 => ?_) (fun hb3 => ?_)
     ·replace h := ifT (c := (!v6004)) hb3 h
      try simp only [go_sem]
      cases h
      simp only [go_sem]
     ·replace h := ifF (c := (!v6004)) hb3 h
      try simp only [go_sem]
      refine seq_go ?_
      try simp only [go_sem]
      replace h := bindE h
      obtain ⟨v8004,hv8004,h⟩ := h
      refine call_i (ih0 _ _ _ hv8004) ?_
      try simp only [go_sem]
      refine seq_go ?_
      try simp only [go_sem]
      refine cond_i (fun hb4 => ?_) (fun hb4 => ?_)
      ·replace h := ifT (c := (!v8004)) hb4 h
       try simp only [go_sem]
       cases h
       simp only [go_sem]
      ·replace h := ifF (c := (!v8004)) hb4 h
       try simp only [go_sem]
       refine seq_go ?_
       try simp only [go_sem]
       cases h
       simp only [go_sem]
theorem l_eqCoreS_ok (n : Nat) : (∀ (a0 : List Core) (a1 : List Core) (r : Bool),l_eqCoreS n a0 a1 = some r → AC Tryz.prog 69 [.ro (List.map Core.ds a0),.ro (List.map Core.ds a1)] (.bool r)) := (l_eqCoreS_all n).1
theorem l_eqCore_ok (n : Nat) : (∀ (a0 : Core) (a1 : Core) (r : Bool),l_eqCore n a0 a1 = some r → AC Tryz.prog 17 [.agg (Core.avs a0),.agg (Core.avs a1)] (.bool r)) := (l_eqCoreS_all n).2.2
theorem l_markInt64S_l1_ok (n : Nat) : (∀ (p0_0 : List Int) (p0_1 : Int) (p0_2 : Int) (z1 : Option Nat) (r : Int × (List Int)),l_markInt64S_l1 n p0_0 p0_1 p0_2 = some r → posG Tryz.prog Tryz.f26 [1,0,1,0] (.int .i64 r.1) [(1,⟨List.map i64D r.2,z1,0,false⟩)] [] ⟨[(0,.own 1),(1,.int .i64 p0_1),(5,.int .i64 p0_2)],[(1,some ⟨List.map i64D p0_0,z1,0,false⟩)],[]⟩) := by
 induction n with
 | zero => exact ((fun _ _ _ _ _ h => by rw [l_markInt64S_l1] at h; cases h))
 | succ n ih =>
  have ih0 := ih
  ·intro p0_0 p0_1 p0_2 z1 r h
   rw [l_markInt64S_l1] at h
   refine posG_of rfl rfl ?_
   try simp only [go_sem]
   refine loop_i ?_
   try simp only [go_sem]
   refine cond_i (fun hb1 => ?_) (fun hb1 => ?_)
   ·replace h := ifT (c := (decide (p0_2 < ((List.length p0_0 : Nat) : Int)))) hb1 h
    try simp only [go_sem]
    refine seq_go ?_
    try simp only [go_sem]
    replace h := bindE h
    obtain ⟨v5003,hv5003,h⟩ := h
    refine idx_m hv5003 rfl ?_
    try simp only [go_sem]
    replace h := bindE h
    obtain ⟨v5004_8,hv5004_8,h⟩ := h
    refine opt_i (row_m hv5003) ?_
    try simp only [go_sem]
    refine row_i (List.map i64D v5004_8) (by rw [← set1_some hv5004_8]; simp only [List.map_set,go_sem,slD]) ?_
    try simp only [go_sem]
    refine seq_go ?_
    try simp only [go_sem]
    have hj := posG_to rfl rfl (ih0 v5004_8 (IntKind.i64.wrap (p0_1 + 1)) (IntKind.i64.wrap (p0_2 + 1)) z1 _ h)
    refine lp_to hj (.one ⟨_,.done _,[(1,1)],[],?_⟩)
    clear hj
    try simp only [go_sem]
   ·replace h := ifF (c := (decide (p0_2 < ((List.length p0_0 : Nat) : Int)))) hb1 h
    try simp only [go_sem]
    refine seq_go ?_
    try simp only [go_sem]
    cases h
    refine ret_i (.done _) [(1,1)] [] ?_
    simp only [go_sem]
theorem l_markInt64S_ok (a0 : List Int) (a1 : Int) (z1 : Option Nat) (r : Int × (List Int)) (h : l_markInt64S a0 a1 = some r) : AG Tryz.prog 26 [.own 1,.int .i64 a1] [(1,⟨List.map i64D a0,z1,0,false⟩)] [] (.int .i64 r.1) [(1,⟨List.map i64D r.2,z1,0,false⟩)] [] := by
 unfold l_markInt64S at h
 refine ag_fn mixed Tryz.func26 rfl rfl rfl (by kernel_rfl) (by kernel_rfl) ?_
 try simp only [go_sem]
 have hj := posG_to rfl rfl (l_markInt64S_l1_ok fuel a0 a1 0 z1 _ h)
 refine loop_to hj (.one ⟨_,.done _,[(1,1)],[],?_⟩)
 clear hj
 try simp only [go_sem]
theorem l_markCoreS_all (n : Nat) : (∀ (a0 : List Core) (a1 : Int) (z1 : Option Nat) (r : Int × (List Core)),l_markCoreS n a0 a1 = some r → AG Tryz.prog 70 [.own 1,.int .i64 a1] [(1,⟨List.map Core.ds a0,z1,0,false⟩)] [] (.int .i64 r.1) [(1,⟨List.map Core.ds r.2,z1,0,false⟩)] []) ∧
    (∀ (p0_0 : List Core) (p0_1 : Int) (p0_2 : Int) (z1 : Option Nat) (r : Int × (List Core)),l_markCoreS_l1 n p0_0 p0_1 p0_2 = some r → posG Tryz.prog Tryz.f70 [1,0,1,0] (.int .i64 r.1) [(1,⟨List.map Core.ds r.2,z1,0,false⟩)] [] ⟨[(0,.own 1),(1,.int .i64 p0_1),(5,.int .i64 p0_2)],[(1,some ⟨List.map Core.ds p0_0,z1,0,false⟩)],[]⟩) := by
 induction n with
 | zero => exact ⟨(fun _ _ _ _ h => by rw [l_markCoreS] at h; cases h),(fun _ _ _ _ _ h => by rw [l_markCoreS_l1] at h; cases h)⟩
 | succ n ih =>
  obtain ⟨ih0,ih1⟩ := ih
  refine ⟨?_,?_⟩
  ·intro a0 a1 z1 r h
   rw [l_markCoreS] at h
   refine ag_fn mixed Tryz.func70 rfl rfl rfl (by kernel_rfl) (by kernel_rfl) ?_
   try simp only [go_sem]
   have hj := posG_to rfl rfl (ih1 a0 a1 0 z1 _ h)
   refine loop_to hj (.one ⟨_,.done _,[(1,1)],[],?_⟩)
   clear hj
   try simp only [go_sem]
  ·intro p0_0 p0_1 p0_2 z1 r h
   rw [l_markCoreS_l1] at h
   refine posG_of rfl rfl ?_
   try simp only [go_sem]
   refine loop_i ?_
   try simp only [go_sem]
   refine cond_i (fun hb1 => ?_) (fun hb1 => ?_)
   ·replace h := ifT (c := (decide (p0_2 < ((List.length p0_0 : Nat) : Int)))) hb1 h
    try simp only [go_sem]
    refine seq_go ?_
    try simp only [go_sem]
    replace h := bindE h
    obtain ⟨v5003,hv5003,h⟩ := h
    refine idx_m hv5003 (Core.ds_len _) ?_
    try simp only [go_sem]
    replace h := bindE h
    obtain ⟨v5005_36,hv5005_36,h⟩ := h
    refine opt_i (row_m hv5003) ?_
    try simp only [go_sem]
    refine row_i (List.map Core.ds v5005_36) (by rw [← set1_some hv5005_36]; simp only [List.map_set,go_sem,Core.ds_eq]) ?_
    try simp only [go_sem]
    replace h := bindE h
    obtain ⟨v7003,hv7003,h⟩ := h
    refine idx_m hv7003 (Core.ds_len _) ?_
    try simp only [go_sem]
    replace h := bindE h
    obtain ⟨v7005_37,hv7005_37,h⟩ := h
    refine opt_i (row_m hv7003) ?_
    try simp only [go_sem]
    refine row_i (List.map Core.ds v7005_37) (by rw [← set1_some hv7005_37]; simp only [List.map_set,go_sem,Core.ds_eq]) ?_
    try simp only [go_sem]
    replace h := bindE h
    obtain ⟨v9002,hv9002,h⟩ := h
    refine idx_m hv9002 (Core.ds_len _) ?_
    try simp only [go_sem]
    refine opt_i (row_m hv9002) ?_
    try simp only [go_sem]
    replace h := bindE h
    obtain ⟨v9006,hv9006,h⟩ := h
    replace h := bindE h
    obtain ⟨v9006_39,hv9006_39,h⟩ := h
    refine call_g ⟨[(3000144096,.sub 1 0 [(4,Int.toNat p0_2,2)],none)],[(1,3000144096)],[],[],[],true⟩ (by kernel_rfl) (l_markInt64S_ok _ _ none _ hv9006) (by kernel_rfl) ?_
    try simp only [go_sem]
    refine opt_i (getP_1 (r := List.map i64D v9002.data) (row_m hv9002) (Core.ds_len _) (by simp only [go_sem,Core.ds_eq])) ?_
    try simp only [go_sem]
    refine row_i ((List.map Core.ds v7005_37).set (Int.toNat p0_2) [.int .i64 v9002.kind,.int .i64 v9002.value,.gone,.sl (List.map Core.ds v9002.kids)]) ((putR_1 (row_m hv9002) (d' := .sl (List.map i64D v9002.data)) (by simp only [go_sem,Core.ds_eq])).trans (by simp only [go_sem,Core.ds_eq])) ?_
    try simp only [go_sem]
    refine and_i (getC_1 (set_at (row_m hv9002)) rfl rfl) ?_
    try simp only [go_sem]
    refine row_i (List.map Core.ds v9006_39) (((putR_1 (set_at (row_m hv9002)) (d' := .gone) rfl).trans (List.set_set ..)).trans (by rw [← set1_some hv9006_39]; simp only [List.map_set,go_sem,Core.ds_eq])) ?_
    try simp only [go_sem]
    refine seq_go ?_
    try simp only [go_sem]
    replace h := bindE h
    obtain ⟨v10002,hv10002,h⟩ := h
    refine idx_m hv10002 (Core.ds_len _) ?_
    try simp only [go_sem]
    refine opt_i (row_m hv10002) ?_
    try simp only [go_sem]
    replace h := bindE h
    obtain ⟨v10006,hv10006,h⟩ := h
    replace h := bindE h
    obtain ⟨v10006_40,hv10006_40,h⟩ := h
    refine call_g ⟨[(3000160096,.sub 1 0 [(4,Int.toNat p0_2,3)],none)],[(1,3000160096)],[],[],[],true⟩ (by kernel_rfl) (ih0 _ _ none _ hv10006) (by kernel_rfl) ?_
    try simp only [go_sem]
    refine opt_i (getP_1 (r := List.map Core.ds v10002.kids) (row_m hv10002) (Core.ds_len _) (by simp only [go_sem,Core.ds_eq])) ?_
    try simp only [go_sem]
    refine row_i ((List.map Core.ds v9006_39).set (Int.toNat p0_2) [.int .i64 v10002.kind,.int .i64 v10002.value,.sl (List.map i64D v10002.data),.gone]) ((putR_1 (row_m hv10002) (d' := .sl (List.map Core.ds v10002.kids)) (by simp only [go_sem,Core.ds_eq])).trans (by simp only [go_sem,Core.ds_eq])) ?_
    try simp only [go_sem]
    refine and_i (getC_1 (set_at (row_m hv10002)) rfl rfl) ?_
    try simp only [go_sem]
    refine row_i (List.map Core.ds v10006_40) (((putR_1 (set_at (row_m hv10002)) (d' := .gone) rfl).trans (List.set_set ..)).trans (by rw [← set1_some hv10006_40]; simp only [List.map_set,go_sem,Core.ds_eq])) ?_
    try simp only [go_sem]
    refine seq_go ?_
    try simp only [go_sem]
    have hj := posG_to rfl rfl (ih1 v10006_40 v10006.1 (IntKind.i64.wrap (p0_2 + 1)) z1 _ h)
    refine lp_to hj (.one ⟨_,.done _,[(1,1)],[],?_⟩)
    clear hj
    try simp only [go_sem]
   ·replace h := ifF (c := (decide (p0_2 < ((List.length p0_0 : Nat) : Int)))) hb1 h
    try simp only [go_sem]
    refine seq_go ?_
    try simp only [go_sem]
    cases h
    refine ret_i (.done _) [(1,1)] [] ?_
    simp only [go_sem]
theorem l_markCoreS_ok (n : Nat) : (∀ (a0 : List Core) (a1 : Int) (z1 : Option Nat) (r : Int × (List Core)),l_markCoreS n a0 a1 = some r → AG Tryz.prog 70 [.own 1,.int .i64 a1] [(1,⟨List.map Core.ds a0,z1,0,false⟩)] [] (.int .i64 r.1) [(1,⟨List.map Core.ds r.2,z1,0,false⟩)] []) := (l_markCoreS_all n).1
theorem l_markCore_ok (a0 : Core) (a1 : Int) (z1 : Option Nat) (z2 : Option Nat) (r : Int × (List Int) × (List Core)) (h : l_markCore a0 a1 = some r) : AG Tryz.prog 20 [.agg [.int .i64 a0.kind,.int .i64 a0.value,.own 1,.own 2],.int .i64 a1] [(1,⟨List.map i64D a0.data,z1,0,false⟩),(2,⟨List.map Core.ds a0.kids,z2,0,false⟩)] [] (.int .i64 r.1) [(1,⟨List.map i64D r.2.1,z1,0,false⟩),(2,⟨List.map Core.ds r.2.2,z2,0,false⟩)] [] := by
 unfold l_markCore at h
 refine ag_fn mixed Tryz.func20 rfl rfl rfl (by kernel_rfl) (by kernel_rfl) ?_
 try simp only [go_sem]
 replace h := bindE h
 obtain ⟨v2003,hv2003,h⟩ := h
 refine call_g ⟨[],[(1,1)],[],[],[],true⟩ (by kernel_rfl) (l_markInt64S_ok _ _ z1 _ hv2003) (by kernel_rfl) ?_
 try simp only [go_sem]
 refine seq_go ?_
 try simp only [go_sem]
 replace h := bindE h
 obtain ⟨v3003,hv3003,h⟩ := h
 refine call_g ⟨[],[(1,2)],[],[],[],true⟩ (by kernel_rfl) (l_markCoreS_ok fuel _ _ z2 _ hv3003) (by kernel_rfl) ?_
 try simp only [go_sem]
 refine seq_go ?_
 try simp only [go_sem]
 cases h
 refine ret_i (.done _) [(1,1),(2,2)] [] ?_
 simp only [go_sem]
theorem l_heldInt64S_l1_ok (n : Nat) : (∀ (a0 : List Int) (p0_0 : Int) (p0_1 : Int) (r : Int),l_heldInt64S_l1 n a0 p0_0 p0_1 = some r → posF Tryz.prog Tryz.f71 [1,0,1,0] (.int .i64 r) ⟨[(0,.ro (List.map i64D a0)),(1,.int .i64 p0_0),(5,.int .i64 p0_1)],[],[]⟩) := by
 induction n with
 | zero => exact ((fun _ _ _ _ h => by rw [l_heldInt64S_l1] at h; cases h))
 | succ n ih =>
  have ih0 := ih
  ·intro a0 p0_0 p0_1 r h
   rw [l_heldInt64S_l1] at h
   refine posF_of rfl rfl ?_
   try simp only [go_sem]
   refine loop_i ?_
   try simp only [go_sem]
   refine cond_i (fun hb1 => ?_) (fun hb1 => ?_)
   ·replace h := ifT (c := (decide (p0_1 < ((List.length a0 : Nat) : Int)))) hb1 h
    try simp only [go_sem]
    refine seq_go ?_
    try simp only [go_sem]
    replace h := bindE h
    obtain ⟨v5002,hv5002,h⟩ := h
    refine idx_m hv5002 rfl ?_
    try simp only [go_sem]
    refine cond_i (fun hb2 => ?_) (fun hb2 => ?_)
    ·replace h := ifT (c := (!decide (v5002 = p0_0))) hb2 h
     try simp only [go_sem]
     cases h
     simp only [go_sem]
    ·replace h := ifF (c := (!decide (v5002 = p0_0))) hb2 h
     try simp only [go_sem]
     refine seq_go ?_
     try simp only [go_sem]
     refine seq_go ?_
     try simp only [go_sem]
     have hj := posF_to rfl rfl (ih0 a0 (IntKind.i64.wrap (p0_0 + 1)) (IntKind.i64.wrap (p0_1 + 1)) _ h)
     refine lp_to hj (.one ⟨_,.done _,[],[],?_⟩)
     clear hj
     try simp only [go_sem]
   ·replace h := ifF (c := (decide (p0_1 < ((List.length a0 : Nat) : Int)))) hb1 h
    try simp only [go_sem]
    refine seq_go ?_
    try simp only [go_sem]
    cases h
    simp only [go_sem]
theorem l_heldInt64S_ok (a0 : List Int) (a1 : Int) (r : Int) (h : l_heldInt64S a0 a1 = some r) : AC Tryz.prog 71 [.ro (List.map i64D a0),.int .i64 a1] (.int .i64 r) := by
 unfold l_heldInt64S at h
 refine ac_fn mixed Tryz.func71 rfl rfl rfl (by kernel_rfl) (by kernel_rfl) ?_
 try simp only [go_sem]
 have hj := posF_to rfl rfl (l_heldInt64S_l1_ok fuel a0 a1 0 _ h)
 refine loop_to hj (.one ⟨_,.done _,[],[],?_⟩)
 clear hj
 try simp only [go_sem]
theorem l_heldCoreS_all (n : Nat) : (∀ (a0 : List Core) (a1 : Int) (r : Int),l_heldCoreS n a0 a1 = some r → AC Tryz.prog 72 [.ro (List.map Core.ds a0),.int .i64 a1] (.int .i64 r)) ∧
    (∀ (a0 : List Core) (p0_0 : Int) (p0_1 : Int) (r : Int),l_heldCoreS_l1 n a0 p0_0 p0_1 = some r → posF Tryz.prog Tryz.f72 [1,0,1,0] (.int .i64 r) ⟨[(0,.ro (List.map Core.ds a0)),(1,.int .i64 p0_0),(5,.int .i64 p0_1)],[],[]⟩) := by
 induction n with
 | zero => exact ⟨(fun _ _ _ h => by rw [l_heldCoreS] at h; cases h),(fun _ _ _ _ h => by rw [l_heldCoreS_l1] at h; cases h)⟩
 | succ n ih =>
  obtain ⟨ih0,ih1⟩ := ih
  refine ⟨?_,?_⟩
  ·intro a0 a1 r h
   rw [l_heldCoreS] at h
   refine ac_fn mixed Tryz.func72 rfl rfl rfl (by kernel_rfl) (by kernel_rfl) ?_
   try simp only [go_sem]
   have hj := posF_to rfl rfl (ih1 a0 a1 0 _ h)
   refine loop_to hj (.one ⟨_,.done _,[],[],?_⟩)
   clear hj
   try simp only [go_sem]
  ·intro a0 p0_0 p0_1 r h
   rw [l_heldCoreS_l1] at h
   refine posF_of rfl rfl ?_
   try simp only [go_sem]
   refine loop_i ?_
   try simp only [go_sem]
   refine cond_i (fun hb1 => ?_) (fun hb1 => ?_)
   ·replace h := ifT (c := (decide (p0_1 < ((List.length a0 : Nat) : Int)))) hb1 h
    try simp only [go_sem]
    refine seq_go ?_
    try simp only [go_sem]
    replace h := bindE h
    obtain ⟨v5002,hv5002,h⟩ := h
    refine idx_m hv5002 (Core.ds_len _) ?_
    try simp only [go_sem]
    refine cond_i (fun hb2 => ?_) (fun hb2 => ?_)
    ·replace h := ifT (c := (!decide (v5002.kind = p0_0))) hb2 h
     try simp only [go_sem]
     cases h
     simp only [go_sem]
    ·replace h := ifF (c := (!decide (v5002.kind = p0_0))) hb2 h
     try simp only [go_sem]
     refine seq_go ?_
     try simp only [go_sem]
     replace h := bindE h
     obtain ⟨v8002,hv8002,h⟩ := h
     refine idx_m hv8002 (Core.ds_len _) ?_
     try simp only [go_sem]
     refine cond_i (fun hb3 => ?_) (fun hb3 => ?_)
     ·replace h := ifT (c := (!decide (v8002.value = (IntKind.i64.wrap (p0_0 + 1))))) hb3 h
      try simp only [go_sem]
      cases h
      simp only [go_sem]
     ·replace h := ifF (c := (!decide (v8002.value = (IntKind.i64.wrap (p0_0 + 1))))) hb3 h
      try simp only [go_sem]
      refine seq_go ?_
      try simp only [go_sem]
      replace h := bindE h
      obtain ⟨v11002,hv11002,h⟩ := h
      refine idx_m hv11002 (Core.ds_len _) ?_
      try simp only [go_sem]
      replace h := bindE h
      obtain ⟨v11006,hv11006,h⟩ := h
      refine call_i (l_heldInt64S_ok _ _ _ hv11006) ?_
      try simp only [go_sem]
      refine seq_go ?_
      try simp only [go_sem]
      refine cond_i (fun hb4 => ?_) (fun hb4 => ?_)
      ·replace h := ifT (c := (decide (v11006 < 0))) hb4 h
       try simp only [go_sem]
       cases h
       simp only [go_sem]
      ·replace h := ifF (c := (decide (v11006 < 0))) hb4 h
       try simp only [go_sem]
       refine seq_go ?_
       try simp only [go_sem]
       replace h := bindE h
       obtain ⟨v14002,hv14002,h⟩ := h
       refine idx_m hv14002 (Core.ds_len _) ?_
       try simp only [go_sem]
       replace h := bindE h
       obtain ⟨v14006,hv14006,h⟩ := h
       refine call_i (ih0 _ _ _ hv14006) ?_
       try simp only [go_sem]
       refine seq_go ?_
       try simp only [go_sem]
       refine cond_i (fun hb5 => ?_) (fun hb5 => ?_)
       ·replace h := ifT (c := (decide (v14006 < 0))) hb5 h
        try simp only [go_sem]
        cases h
        simp only [go_sem]
       ·replace h := ifF (c := (decide (v14006 < 0))) hb5 h
        try simp only [go_sem]
        refine seq_go ?_
        try simp only [go_sem]
        have hj := posF_to rfl rfl (ih1 a0 v14006 (IntKind.i64.wrap (p0_1 + 1)) _ h)
        refine lp_to hj (.one ⟨_,.done _,[],[],?_⟩)
        clear hj
        try simp only [go_sem]
   ·replace h := ifF (c := (decide (p0_1 < ((List.length a0 : Nat) : Int)))) hb1 h
    try simp only [go_sem]
    refine seq_go ?_
    try simp only [go_sem]
    cases h
    simp only [go_sem]
theorem l_heldCoreS_ok (n : Nat) : (∀ (a0 : List Core) (a1 : Int) (r : Int),l_heldCoreS n a0 a1 = some r → AC Tryz.prog 72 [.ro (List.map Core.ds a0),.int .i64 a1] (.int .i64 r)) := (l_heldCoreS_all n).1
theorem l_heldCore_ok (a0 : Core) (a1 : Int) (r : Int) (h : l_heldCore a0 a1 = some r) : AC Tryz.prog 21 [.agg (Core.avs a0),.int .i64 a1] (.int .i64 r) := by
 unfold l_heldCore at h
 refine ac_fn mixed Tryz.func21 rfl rfl rfl (by kernel_rfl) (by kernel_rfl) ?_
 try simp only [go_sem]
 replace h := bindE h
 obtain ⟨v2003,hv2003,h⟩ := h
 refine call_i (l_heldInt64S_ok _ _ _ hv2003) ?_
 try simp only [go_sem]
 refine seq_go ?_
 try simp only [go_sem]
 refine cond_i (fun hb1 => ?_) (fun hb1 => ?_)
 ·replace h := ifT (c := (decide (v2003 < 0))) hb1 h
  try simp only [go_sem]
  cases h
  simp only [go_sem]
 ·replace h := ifF (c := (decide (v2003 < 0))) hb1 h
  try simp only [go_sem]
  refine seq_go ?_
  try simp only [go_sem]
  replace h := bindE h
  obtain ⟨v5003,hv5003,h⟩ := h
  refine call_i (l_heldCoreS_ok fuel _ _ _ hv5003) ?_
  try simp only [go_sem]
  refine seq_go ?_
  try simp only [go_sem]
  refine cond_i (fun hb2 => ?_) (fun hb2 => ?_)
  ·replace h := ifT (c := (decide (v5003 < 0))) hb2 h
   try simp only [go_sem]
   cases h
   simp only [go_sem]
  ·replace h := ifF (c := (decide (v5003 < 0))) hb2 h
   try simp only [go_sem]
   refine seq_go ?_
   try simp only [go_sem]
   cases h
   simp only [go_sem]
theorem g_IndexFunc_simpl_Core_l1_ok (n : Nat) : (∀ (a0 : List Core) (p0_0 : Int) (f1 : (Core → Option Bool)) (g1 : FuncId) (c1 : List AV) (s1 : Still c1) (h1 : ∀ (y0 : Core) (q : Bool),f1 y0 = some q → AC Tryz.prog g1 (.agg (Core.avs y0) :: c1) (.bool q)) (r : Int),g_IndexFunc_simpl_Core_l1 n a0 p0_0 f1 = some r → posF Tryz.prog Tryz.f392 [1,0,1,0] (.int .i64 r) ⟨[(0,.ro (List.map Core.ds a0)),(1,.fn g1 c1),(7,.int .i64 ((List.length a0 : Nat) : Int)),(8,.int .i64 p0_0)],[],[]⟩) := by
 induction n with
 | zero => exact ((fun _ _ _ _ _ _ _ _ h => by rw [g_IndexFunc_simpl_Core_l1] at h; cases h))
 | succ n ih =>
  have ih0 := ih
  ·intro a0 p0_0 f1 g1 c1 s1 h1 r h
   rw [g_IndexFunc_simpl_Core_l1] at h
   refine posF_of rfl rfl ?_
   try simp only [go_sem,s1.k,s1.r,s1.c,s1.p]
   refine loop_i ?_
   try simp only [go_sem,s1.k,s1.r,s1.c,s1.p]
   refine cond_i (fun hb1 => ?_) (fun hb1 => ?_)
   ·replace h := ifT (c := (decide (p0_0 < ((List.length a0 : Nat) : Int)))) hb1 h
    try simp only [go_sem,s1.k,s1.r,s1.c,s1.p]
    refine seq_go ?_
    try simp only [go_sem,s1.k,s1.r,s1.c,s1.p]
    replace h := bindE h
    obtain ⟨v5003,hv5003,h⟩ := h
    refine idx_m hv5003 (Core.ds_len _) ?_
    try simp only [go_sem,s1.k,s1.r,s1.c,s1.p]
    replace h := bindE h
    obtain ⟨v5005,hv5005,h⟩ := h
    refine call_i (h1 _ _ hv5005) ?_
    try simp only [go_sem,s1.k,s1.r,s1.c,s1.p]
    refine seq_go ?_
    try simp only [go_sem,s1.k,s1.r,s1.c,s1.p]
    refine cond_i (fun hb2 => ?_) (fun hb2 => ?_)
    ·replace h := ifT (c := v5005) hb2 h
     try simp only [go_sem,s1.k,s1.r,s1.c,s1.p]
     cases h
     simp only [go_sem,s1.k,s1.r,s1.c,s1.p]
    ·replace h := ifF (c := v5005) hb2 h
     try simp only [go_sem,s1.k,s1.r,s1.c,s1.p]
     refine seq_go ?_
     try simp only [go_sem,s1.k,s1.r,s1.c,s1.p]
     have hj := posF_to rfl rfl (ih0 a0 (IntKind.i64.wrap (p0_0 + 1)) f1 g1 c1 s1 h1 _ h)
     refine lp_to hj (.one ⟨_,.done _,[],[],?_⟩)
     clear hj
     try simp only [go_sem,s1.k,s1.r,s1.c,s1.p]
   ·replace h := ifF (c := (decide (p0_0 < ((List.length a0 : Nat) : Int)))) hb1 h
    try simp only [go_sem,s1.k,s1.r,s1.c,s1.p]
    refine seq_go ?_
    try simp only [go_sem,s1.k,s1.r,s1.c,s1.p]
    cases h
    simp only [go_sem,s1.k,s1.r,s1.c,s1.p]
theorem g_IndexFunc_simpl_Core_ok (a0 : List Core) (f1 : (Core → Option Bool)) (g1 : FuncId) (c1 : List AV) (s1 : Still c1) (h1 : ∀ (y0 : Core) (q : Bool),f1 y0 = some q → AC Tryz.prog g1 (.agg (Core.avs y0) :: c1) (.bool q)) (r : Int) (h : g_IndexFunc_simpl_Core a0 f1 = some r) : AC Tryz.prog 392 [.ro (List.map Core.ds a0),.fn g1 c1] (.int .i64 r) := by
 unfold g_IndexFunc_simpl_Core at h
 refine ac_fn mixed Tryz.func392 rfl rfl rfl (by kernel_rfl) (by kernel_rfl) ?_
 try simp only [go_sem,s1.k,s1.r,s1.c,s1.p]
 have hj := posF_to rfl rfl (g_IndexFunc_simpl_Core_l1_ok fuel a0 0 f1 g1 c1 s1 h1 _ h)
 refine loop_to hj (.one ⟨_,.done _,[],[],?_⟩)
 clear hj
 try simp only [go_sem,s1.k,s1.r,s1.c,s1.p]
theorem g_ContainsFunc_simpl_Core_ok (a0 : List Core) (f1 : (Core → Option Bool)) (g1 : FuncId) (c1 : List AV) (s1 : Still c1) (h1 : ∀ (y0 : Core) (q : Bool),f1 y0 = some q → AC Tryz.prog g1 (.agg (Core.avs y0) :: c1) (.bool q)) (r : Bool) (h : g_ContainsFunc_simpl_Core a0 f1 = some r) : AC Tryz.prog 282 [.ro (List.map Core.ds a0),.fn g1 c1] (.bool r) := by
 unfold g_ContainsFunc_simpl_Core at h
 refine ac_fn mixed Tryz.func282 rfl rfl rfl (by kernel_rfl) (by kernel_rfl) ?_
 try simp only [go_sem,s1.k,s1.r,s1.c,s1.p]
 replace h := bindE h
 obtain ⟨v2002,hv2002,h⟩ := h
 refine call_i (g_IndexFunc_simpl_Core_ok _ _ g1 c1 s1 h1 _ hv2002) ?_
 try simp only [go_sem,s1.k,s1.r,s1.c,s1.p]
 refine seq_go ?_
 try simp only [go_sem,s1.k,s1.r,s1.c,s1.p]
 cases h
 simp only [go_sem,s1.k,s1.r,s1.c,s1.p]
theorem i_coreExtent_all (n : Nat) : (∀ (a0 : Core) (r : Int × Int),i_coreExtent n a0 = some r → AC Tryz.prog 294 [.agg (Core.avs a0)] (.tup [.int .i64 r.1,.int .i64 r.2])) ∧
    (∀ (a0 : Core) (p0_0 : Int) (p0_1 : Int) (p0_2 : Int) (r : Int × Int),i_coreExtent_l1 n a0 p0_0 p0_1 p0_2 = some r → posF Tryz.prog Tryz.f294 [1,1,0,1,0] (.tup [.int .i64 r.1,.int .i64 r.2]) ⟨[(2,.int .i64 p0_0),(3,.int .i64 p0_1),(9,.ro (List.map Core.ds a0.kids)),(10,.int .i64 ((List.length a0.kids : Nat) : Int)),(11,.int .i64 p0_2)],[],[]⟩) := by
 induction n with
 | zero => exact ⟨(fun _ _ h => by rw [i_coreExtent] at h; cases h),(fun _ _ _ _ _ h => by rw [i_coreExtent_l1] at h; cases h)⟩
 | succ n ih =>
  obtain ⟨ih0,ih1⟩ := ih
  refine ⟨?_,?_⟩
  ·intro a0 r h
   rw [i_coreExtent] at h
   refine ac_fn mixed Tryz.func294 rfl rfl rfl (by kernel_rfl) (by kernel_rfl) ?_
   try simp only [go_sem]
   have hj := posF_to rfl rfl (ih1 a0 1 1 0 _ h)
   refine loop_to hj (.one ⟨_,.done _,[],[],?_⟩)
   clear hj
   try simp only [go_sem]
  ·intro a0 p0_0 p0_1 p0_2 r h
   rw [i_coreExtent_l1] at h
   refine posF_of rfl rfl ?_
   try simp only [go_sem]
   refine loop_i ?_
   try simp only [go_sem]
   refine cond_i (fun hb1 => ?_) (fun hb1 => ?_)
   ·replace h := ifT (c := (decide (p0_2 < ((List.length a0.kids : Nat) : Int)))) hb1 h
    try simp only [go_sem]
    refine seq_go ?_
    try simp only [go_sem]
    replace h := bindE h
    obtain ⟨v5000,hv5000,h⟩ := h
    refine idx_m hv5000 (Core.ds_len _) ?_
    try simp only [go_sem]
    replace h := bindE h
    obtain ⟨v6001,hv6001,h⟩ := h
    refine call_i (ih0 _ _ hv6001) ?_
    try simp only [go_sem]
    refine seq_go ?_
    try simp only [go_sem]
    refine seq_go ?_
    try simp only [go_sem]
    have hj := posF_to rfl rfl (ih1 a0 (if p0_0 < (IntKind.i64.wrap (v6001.1 + 1)) then (IntKind.i64.wrap (v6001.1 + 1)) else p0_0) (IntKind.i64.wrap (p0_1 + v6001.2)) (IntKind.i64.wrap (p0_2 + 1)) _ h)
    refine lp_to hj (.one ⟨_,.done _,[],[],?_⟩)
    clear hj
    try simp only [go_sem]
   ·replace h := ifF (c := (decide (p0_2 < ((List.length a0.kids : Nat) : Int)))) hb1 h
    try simp only [go_sem]
    refine seq_go ?_
    try simp only [go_sem]
    cases h
    simp only [go_sem]
theorem i_coreExtent_ok (n : Nat) : (∀ (a0 : Core) (r : Int × Int),i_coreExtent n a0 = some r → AC Tryz.prog 294 [.agg (Core.avs a0)] (.tup [.int .i64 r.1,.int .i64 r.2])) := (i_coreExtent_all n).1
theorem i_coreFits_ok (a0 : Core) (r : Bool) (h : i_coreFits a0 = some r) : AC Tryz.prog 158 [.agg (Core.avs a0)] (.bool r) := by
 unfold i_coreFits at h
 refine ac_fn mixed Tryz.func158 rfl rfl rfl (by kernel_rfl) (by kernel_rfl) ?_
 try simp only [go_sem]
 replace h := bindE h
 obtain ⟨v2001,hv2001,h⟩ := h
 refine call_i (i_coreExtent_ok fuel _ _ hv2001) ?_
 try simp only [go_sem]
 refine seq_go ?_
 try simp only [go_sem]
 refine cond_i (fun hb1 => ?_) (fun hb1 => ?_)
 ·replace h := ifT (c := (decide (v2001.1 ≤ 80))) hb1 h
  try simp only [go_sem]
  refine seq_go ?_
  try simp only [go_sem]
  cases h
  simp only [go_sem]
 ·replace h := ifF (c := (decide (v2001.1 ≤ 80))) hb1 h
  try simp only [go_sem]
  refine seq_go ?_
  try simp only [go_sem]
  cases h
  simp only [go_sem]
theorem g_IndexFunc_sint64_l1_ok (n : Nat) : (∀ (a0 : List Int) (p0_0 : Int) (f1 : (Int → Option Bool)) (g1 : FuncId) (c1 : List AV) (s1 : Still c1) (h1 : ∀ (y0 : Int) (q : Bool),f1 y0 = some q → AC Tryz.prog g1 (.int .i64 y0 :: c1) (.bool q)) (r : Int),g_IndexFunc_sint64_l1 n a0 p0_0 f1 = some r → posF Tryz.prog Tryz.f162 [1,0,1,0] (.int .i64 r) ⟨[(0,.ro (List.map i64D a0)),(1,.fn g1 c1),(7,.int .i64 ((List.length a0 : Nat) : Int)),(8,.int .i64 p0_0)],[],[]⟩) := by
 induction n with
 | zero => exact ((fun _ _ _ _ _ _ _ _ h => by rw [g_IndexFunc_sint64_l1] at h; cases h))
 | succ n ih =>
  have ih0 := ih
  ·intro a0 p0_0 f1 g1 c1 s1 h1 r h
   rw [g_IndexFunc_sint64_l1] at h
   refine posF_of rfl rfl ?_
   try simp only [go_sem,s1.k,s1.r,s1.c,s1.p]
   refine loop_i ?_
   try simp only [go_sem,s1.k,s1.r,s1.c,s1.p]
   refine cond_i (fun hb1 => ?_) (fun hb1 => ?_)
   ·replace h := ifT (c := (decide (p0_0 < ((List.length a0 : Nat) : Int)))) hb1 h
    try simp only [go_sem,s1.k,s1.r,s1.c,s1.p]
    refine seq_go ?_
    try simp only [go_sem,s1.k,s1.r,s1.c,s1.p]
    replace h := bindE h
    obtain ⟨v5003,hv5003,h⟩ := h
    refine idx_m hv5003 rfl ?_
    try simp only [go_sem,s1.k,s1.r,s1.c,s1.p]
    replace h := bindE h
    obtain ⟨v5005,hv5005,h⟩ := h
    refine call_i (h1 _ _ hv5005) ?_
    try simp only [go_sem,s1.k,s1.r,s1.c,s1.p]
    refine seq_go ?_
    try simp only [go_sem,s1.k,s1.r,s1.c,s1.p]
    refine cond_i (fun hb2 => ?_) (fun hb2 => ?_)
    ·replace h := ifT (c := v5005) hb2 h
     try simp only [go_sem,s1.k,s1.r,s1.c,s1.p]
     cases h
     simp only [go_sem,s1.k,s1.r,s1.c,s1.p]
    ·replace h := ifF (c := v5005) hb2 h
     try simp only [go_sem,s1.k,s1.r,s1.c,s1.p]
     refine seq_go ?_
     try simp only [go_sem,s1.k,s1.r,s1.c,s1.p]
     have hj := posF_to rfl rfl (ih0 a0 (IntKind.i64.wrap (p0_0 + 1)) f1 g1 c1 s1 h1 _ h)
     refine lp_to hj (.one ⟨_,.done _,[],[],?_⟩)
     clear hj
     try simp only [go_sem,s1.k,s1.r,s1.c,s1.p]
   ·replace h := ifF (c := (decide (p0_0 < ((List.length a0 : Nat) : Int)))) hb1 h
    try simp only [go_sem,s1.k,s1.r,s1.c,s1.p]
    refine seq_go ?_
    try simp only [go_sem,s1.k,s1.r,s1.c,s1.p]
    cases h
    simp only [go_sem,s1.k,s1.r,s1.c,s1.p]
theorem g_IndexFunc_sint64_ok (a0 : List Int) (f1 : (Int → Option Bool)) (g1 : FuncId) (c1 : List AV) (s1 : Still c1) (h1 : ∀ (y0 : Int) (q : Bool),f1 y0 = some q → AC Tryz.prog g1 (.int .i64 y0 :: c1) (.bool q)) (r : Int) (h : g_IndexFunc_sint64 a0 f1 = some r) : AC Tryz.prog 162 [.ro (List.map i64D a0),.fn g1 c1] (.int .i64 r) := by
 unfold g_IndexFunc_sint64 at h
 refine ac_fn mixed Tryz.func162 rfl rfl rfl (by kernel_rfl) (by kernel_rfl) ?_
 try simp only [go_sem,s1.k,s1.r,s1.c,s1.p]
 have hj := posF_to rfl rfl (g_IndexFunc_sint64_l1_ok fuel a0 0 f1 g1 c1 s1 h1 _ h)
 refine loop_to hj (.one ⟨_,.done _,[],[],?_⟩)
 clear hj
 try simp only [go_sem,s1.k,s1.r,s1.c,s1.p]
theorem g_ContainsFunc_sint64_ok (a0 : List Int) (f1 : (Int → Option Bool)) (g1 : FuncId) (c1 : List AV) (s1 : Still c1) (h1 : ∀ (y0 : Int) (q : Bool),f1 y0 = some q → AC Tryz.prog g1 (.int .i64 y0 :: c1) (.bool q)) (r : Bool) (h : g_ContainsFunc_sint64 a0 f1 = some r) : AC Tryz.prog 76 [.ro (List.map i64D a0),.fn g1 c1] (.bool r) := by
 unfold g_ContainsFunc_sint64 at h
 refine ac_fn mixed Tryz.func76 rfl rfl rfl (by kernel_rfl) (by kernel_rfl) ?_
 try simp only [go_sem,s1.k,s1.r,s1.c,s1.p]
 replace h := bindE h
 obtain ⟨v2002,hv2002,h⟩ := h
 refine call_i (g_IndexFunc_sint64_ok _ _ g1 c1 s1 h1 _ hv2002) ?_
 try simp only [go_sem,s1.k,s1.r,s1.c,s1.p]
 refine seq_go ?_
 try simp only [go_sem,s1.k,s1.r,s1.c,s1.p]
 cases h
 simp only [go_sem,s1.k,s1.r,s1.c,s1.p]
theorem i_isDefIndex_ok (a0 : Int) (r : Bool) (h : i_isDefIndex a0 = some r) : AC Tryz.prog 549 [.int .i64 a0] (.bool r) := by
 unfold i_isDefIndex at h
 refine ac_fn mixed Tryz.func549 rfl rfl rfl (by kernel_rfl) (by kernel_rfl) ?_
 try simp only [go_sem]
 refine cond_i (fun hb1 => ?_) (fun hb1 => ?_)
 ·replace h := ifT (c := (decide (0 ≤ a0))) hb1 h
  try simp only [go_sem]
  refine seq_go ?_
  try simp only [go_sem]
  cases h
  simp only [go_sem]
 ·replace h := ifF (c := (decide (0 ≤ a0))) hb1 h
  try simp only [go_sem]
  refine seq_go ?_
  try simp only [go_sem]
  cases h
  simp only [go_sem]
theorem i_isInt_ok (a0 : Int) (r : Bool) (h : i_isInt a0 = some r) : AC Tryz.prog 550 [.int .i64 a0] (.bool r) := by
 unfold i_isInt at h
 refine ac_fn mixed Tryz.func550 rfl rfl rfl (by kernel_rfl) (by kernel_rfl) ?_
 try simp only [go_sem]
 refine cond_i (fun hb1 => ?_) (fun hb1 => ?_)
 ·replace h := ifT (c := (decide ((-2147483648) ≤ a0))) hb1 h
  try simp only [go_sem]
  refine seq_go ?_
  try simp only [go_sem]
  cases h
  simp only [go_sem]
 ·replace h := ifF (c := (decide ((-2147483648) ≤ a0))) hb1 h
  try simp only [go_sem]
  refine seq_go ?_
  try simp only [go_sem]
  cases h
  simp only [go_sem]
theorem i_isOperator_ok (a0 : Int) (r : Bool) (h : i_isOperator a0 = some r) : AC Tryz.prog 551 [.int .i64 a0] (.bool r) := by
 unfold i_isOperator at h
 refine ac_fn mixed Tryz.func551 rfl rfl rfl (by kernel_rfl) (by kernel_rfl) ?_
 try simp only [go_sem]
 refine cond_i (fun hb1 => ?_) (fun hb1 => ?_)
 ·replace h := ifT (c := (decide (1 ≤ a0))) hb1 h
  try simp only [go_sem]
  refine seq_go ?_
  try simp only [go_sem]
  cases h
  simp only [go_sem]
 ·replace h := ifF (c := (decide (1 ≤ a0))) hb1 h
  try simp only [go_sem]
  refine seq_go ?_
  try simp only [go_sem]
  cases h
  simp only [go_sem]
theorem i_validCoreNode_1_ok (a0 : Int) (r : Bool) (h : i_validCoreNode_1 a0 = some r) : AC Tryz.prog 569 [.int .i64 a0] (.bool r) := by
 unfold i_validCoreNode_1 at h
 refine ac_fn mixed Tryz.func569 rfl rfl rfl (by kernel_rfl) (by kernel_rfl) ?_
 try simp only [go_sem]
 replace h := bindE h
 obtain ⟨v2001,hv2001,h⟩ := h
 refine call_i (i_isDefIndex_ok _ _ hv2001) ?_
 try simp only [go_sem]
 refine seq_go ?_
 try simp only [go_sem]
 cases h
 simp only [go_sem]
theorem i_validCoreNode_j3_ok (a0 : Core) (p2_0 : Bool) (p2_1 : Bool) (p2_2 : Int) (r : Bool) (h : i_validCoreNode_j3 a0 p2_0 p2_1 p2_2 = some r) : posF Tryz.prog Tryz.f540 [1,1,1,1,1] (.bool r) ⟨[(1,.box 1000002500 0),(3,.int .i64 ((List.length a0.kids : Nat) : Int)),(4,.bool p2_0),(5,.bool p2_1),(6,.int .i64 p2_2)],[],[(1000002500,some [.int .i64 a0.kind,.int .i64 a0.value,.ro (List.map i64D a0.data),.ro (List.map Core.ds a0.kids)])]⟩ := by
 unfold i_validCoreNode_j3 at h
 refine posF_of rfl rfl ?_
 try simp only [go_sem]
 refine cond_i (fun hb6 => ?_) (fun hb6 => ?_)
 ·replace h := ifT (c := p2_0) hb6 h
  try simp only [go_sem]
  refine cond_i (fun hb7 => ?_) (fun hb7 => ?_)
  ·replace h := ifT (c := p2_1) hb7 h
   try simp only [go_sem]
   refine cond_i (fun hb8 => ?_) (fun hb8 => ?_)
   ·replace h := ifT (c := (decide (((List.length a0.kids : Nat) : Int) = p2_2))) hb8 h
    try simp only [go_sem]
    replace h := bindE h
    obtain ⟨v27012,hv27012,h⟩ := h
    refine call_i (g_ContainsFunc_sint64_ok _ _ 569 [] (Still.of rfl) (fun y0 q hq => i_validCoreNode_1_ok y0  q hq) _ hv27012) ?_
    try simp only [go_sem]
    refine seq_go ?_
    try simp only [go_sem]
    cases h
    simp only [go_sem]
   ·replace h := ifF (c := (decide (((List.length a0.kids : Nat) : Int) = p2_2))) hb8 h
    try simp only [go_sem]
    refine seq_go ?_
    try simp only [go_sem]
    cases h
    simp only [go_sem]
  ·replace h := ifF (c := p2_1) hb7 h
   try simp only [go_sem]
   refine seq_go ?_
   try simp only [go_sem]
   cases h
   simp only [go_sem]
 ·replace h := ifF (c := p2_0) hb6 h
  try simp only [go_sem]
  refine seq_go ?_
  try simp only [go_sem]
  cases h
  simp only [go_sem]
theorem i_validCoreNode_j2_ok (a0 : Core) (p1_0 : Bool) (r : Bool) (h : i_validCoreNode_j2 a0 p1_0 = some r) : posF Tryz.prog Tryz.f540 [1,1,1,1,0,1,0,1,1,1,1,1,1,1,1,1] (.bool r) ⟨[(1,.box 1000001500 0),(3,.int .i64 ((List.length a0.kids : Nat) : Int)),(5,.bool (decide (((List.length a0.data : Nat) : Int) = 0))),(6,.int .i64 0),(15,.int .i64 a0.kind),(42,.bool p1_0)],[],[(1000001500,some [.int .i64 a0.kind,.int .i64 a0.value,.ro (List.map i64D a0.data),.ro (List.map Core.ds a0.kids)])]⟩ := by
 unfold i_validCoreNode_j2 at h
 refine posF_of rfl rfl ?_
 try simp only [go_sem]
 refine cond_i (fun hb11 => ?_) (fun hb11 => ?_)
 ·replace h := ifT (c := p1_0) hb11 h
  try simp only [go_sem]
  have hj := posF_to rfl rfl (i_validCoreNode_j3_ok a0 (decide (a0.value = 0)) (decide (((List.length a0.data : Nat) : Int) = 0)) 2 _ h)
  refine seq_to hj (.one ⟨_,.done _,[],[(1000002500,1000001500)],?_⟩)
  clear hj
  try simp only [go_sem]
 ·replace h := ifF (c := p1_0) hb11 h
  try simp only [go_sem]
  refine cond_i (fun hb12 => ?_) (fun hb12 => ?_)
  ·replace h := ifT (c := (decide (a0.kind = 8))) hb12 h
   try simp only [go_sem]
   refine cond_i (fun hb13 => ?_) (fun hb13 => ?_)
   ·replace h := ifT (c := (decide (((List.length a0.data : Nat) : Int) = 0))) hb13 h
    try simp only [go_sem]
    refine cond_i (fun hb14 => ?_) (fun hb14 => ?_)
    ·replace h := ifT (c := (decide (0 ≤ a0.value))) hb14 h
     try simp only [go_sem]
     refine cond_i (fun hb15 => ?_) (fun hb15 => ?_)
     ·replace h := ifT (c := (decide (a0.value < 4))) hb15 h
      try simp only [go_sem]
      refine seq_go ?_
      try simp only [go_sem]
      cases h
      simp only [go_sem]
     ·replace h := ifF (c := (decide (a0.value < 4))) hb15 h
      try simp only [go_sem]
      refine seq_go ?_
      try simp only [go_sem]
      cases h
      simp only [go_sem]
    ·replace h := ifF (c := (decide (0 ≤ a0.value))) hb14 h
     try simp only [go_sem]
     refine seq_go ?_
     try simp only [go_sem]
     cases h
     simp only [go_sem]
   ·replace h := ifF (c := (decide (((List.length a0.data : Nat) : Int) = 0))) hb13 h
    try simp only [go_sem]
    refine seq_go ?_
    try simp only [go_sem]
    cases h
    simp only [go_sem]
  ·replace h := ifF (c := (decide (a0.kind = 8))) hb12 h
   try simp only [go_sem]
   refine cond_i (fun hb16 => ?_) (fun hb16 => ?_)
   ·replace h := ifT (c := (decide (a0.kind = 9))) hb16 h
    try simp only [go_sem]
    refine draw_i [] .fin (by kernel_rfl) ?_
    try simp only [go_sem]
    refine cond_i (fun hb17 => ?_) (fun hb17 => ?_)
    ·replace h := ifT (c := (decide (1 ≤ ((List.length a0.data : Nat) : Int)))) hb17 h
     try simp only [go_sem]
     have hj := posF_to rfl rfl (i_validCoreNode_j3_ok a0 (decide (a0.value = 0)) (decide (((List.length a0.data : Nat) : Int) ≤ 4)) 1 _ h)
     refine seq_to hj (.one ⟨_,.done _,[],[(1000002500,1000001500)],?_⟩)
     clear hj
     try simp only [go_sem]
    ·replace h := ifF (c := (decide (1 ≤ ((List.length a0.data : Nat) : Int)))) hb17 h
     try simp only [go_sem]
     have hj := posF_to rfl rfl (i_validCoreNode_j3_ok a0 (decide (a0.value = 0)) false 1 _ h)
     refine seq_to hj (.one ⟨_,.done _,[],[(1000002500,1000001500)],?_⟩)
     clear hj
     try simp only [go_sem]
   ·replace h := ifF (c := (decide (a0.kind = 9))) hb16 h
    try simp only [go_sem]
    refine cond_i (fun hb18 => ?_) (fun hb18 => ?_)
    ·replace h := ifT (c := (decide (a0.kind = 10))) hb18 h
     try simp only [go_sem]
     refine draw_i [] .fin (by kernel_rfl) ?_
     try simp only [go_sem]
     have hj := posF_to rfl rfl (i_validCoreNode_j3_ok a0 (decide (a0.value = 0)) (decide (((List.length a0.data : Nat) : Int) = 2)) 1 _ h)
     refine seq_to hj (.one ⟨_,.done _,[],[(1000002500,1000001500)],?_⟩)
     clear hj
     try simp only [go_sem]
    ·replace h := ifF (c := (decide (a0.kind = 10))) hb18 h
     try simp only [go_sem]
     refine cond_i (fun hb19 => ?_) (fun hb19 => ?_)
     ·replace h := ifT (c := (decide (a0.kind = 11))) hb19 h
      try simp only [go_sem]
      replace h := bindE h
      obtain ⟨v26002,hv26002,h⟩ := h
      refine call_i (i_isDefIndex_ok _ _ hv26002) ?_
      try simp only [go_sem]
      have hj := posF_to rfl rfl (i_validCoreNode_j3_ok a0 v26002 (decide (((List.length a0.data : Nat) : Int) = 0)) 0 _ h)
      refine seq_to hj (.one ⟨_,.done _,[],[(1000002500,1000001500)],?_⟩)
      clear hj
      try simp only [go_sem]
     ·replace h := ifF (c := (decide (a0.kind = 11))) hb19 h
      try simp only [go_sem]
      cases h
      simp only [go_sem]
theorem i_validCoreNode_j1_ok (a0 : Core) (p0_0 : Bool) (r : Bool) (h : i_validCoreNode_j1 a0 p0_0 = some r) : posF Tryz.prog Tryz.f540 [1,1,1,1,0,1,0,1,1,1,1,1,1,1] (.bool r) ⟨[(1,.box 1000000500 0),(3,.int .i64 ((List.length a0.kids : Nat) : Int)),(5,.bool (decide (((List.length a0.data : Nat) : Int) = 0))),(6,.int .i64 0),(15,.int .i64 a0.kind),(36,.bool p0_0)],[],[(1000000500,some [.int .i64 a0.kind,.int .i64 a0.value,.ro (List.map i64D a0.data),.ro (List.map Core.ds a0.kids)])]⟩ := by
 unfold i_validCoreNode_j1 at h
 refine posF_of rfl rfl ?_
 try simp only [go_sem]
 refine cond_i (fun hb9 => ?_) (fun hb9 => ?_)
 ·replace h := ifT (c := p0_0) hb9 h
  try simp only [go_sem]
  have hj := posF_to rfl rfl (i_validCoreNode_j3_ok a0 (decide (a0.value = 0)) (decide (((List.length a0.data : Nat) : Int) = 0)) 1 _ h)
  refine seq_to hj (.one ⟨_,.done _,[],[(1000002500,1000000500)],?_⟩)
  clear hj
  try simp only [go_sem]
 ·replace h := ifF (c := p0_0) hb9 h
  try simp only [go_sem]
  refine cond_i (fun hb10 => ?_) (fun hb10 => ?_)
  ·replace h := ifT (c := (decide (a0.kind = 5))) hb10 h
   try simp only [go_sem]
   have hj := posF_to rfl rfl (i_validCoreNode_j2_ok a0 (decide (a0.kind = 5)) _ h)
   refine seq_to hj (.one ⟨_,.done _,[],[(1000001500,1000000500)],?_⟩)
   clear hj
   try simp only [go_sem]
  ·replace h := ifF (c := (decide (a0.kind = 5))) hb10 h
   try simp only [go_sem]
   have hj := posF_to rfl rfl (i_validCoreNode_j2_ok a0 (decide (a0.kind = 7)) _ h)
   refine seq_to hj (.one ⟨_,.done _,[],[(1000001500,1000000500)],?_⟩)
   clear hj
   try simp only [go_sem]
theorem i_validCoreNode_ok (a0 : Core) (r : Bool) (h : i_validCoreNode a0 = some r) : AC Tryz.prog 540 [.agg (Core.avs a0)] (.bool r) := by
 unfold i_validCoreNode at h
 refine ac_fn mixed Tryz.func540 rfl rfl rfl (by kernel_rfl) (by kernel_rfl) ?_
 try simp only [go_sem]
 refine draw_i [] .fin (by kernel_rfl) ?_
 try simp only [go_sem]
 refine seq_go ?_
 try simp only [go_sem]
 refine cond_i (fun hb1 => ?_) (fun hb1 => ?_)
 ·replace h := ifT (c := (decide (a0.kind = 1))) hb1 h
  try simp only [go_sem]
  refine cond_i (fun hb2 => ?_) (fun hb2 => ?_)
  ·replace h := ifT (c := (decide (0 ≤ a0.value))) hb2 h
   try simp only [go_sem]
   have hj := posF_to rfl rfl (i_validCoreNode_j3_ok a0 (decide (a0.value ≤ 255)) (decide (((List.length a0.data : Nat) : Int) = 0)) 0 _ h)
   refine seq_to hj (.one ⟨_,.done _,[],[(1000002500,1000)],?_⟩)
   clear hj
   try simp only [go_sem]
  ·replace h := ifF (c := (decide (0 ≤ a0.value))) hb2 h
   try simp only [go_sem]
   have hj := posF_to rfl rfl (i_validCoreNode_j3_ok a0 false (decide (((List.length a0.data : Nat) : Int) = 0)) 0 _ h)
   refine seq_to hj (.one ⟨_,.done _,[],[(1000002500,1000)],?_⟩)
   clear hj
   try simp only [go_sem]
 ·replace h := ifF (c := (decide (a0.kind = 1))) hb1 h
  try simp only [go_sem]
  refine cond_i (fun hb3 => ?_) (fun hb3 => ?_)
  ·replace h := ifT (c := (decide (a0.kind = 2))) hb3 h
   try simp only [go_sem]
   replace h := bindE h
   obtain ⟨v10002,hv10002,h⟩ := h
   refine call_i (i_isInt_ok _ _ hv10002) ?_
   try simp only [go_sem]
   have hj := posF_to rfl rfl (i_validCoreNode_j3_ok a0 v10002 (decide (((List.length a0.data : Nat) : Int) = 0)) 0 _ h)
   refine seq_to hj (.one ⟨_,.done _,[],[(1000002500,1000)],?_⟩)
   clear hj
   try simp only [go_sem]
  ·replace h := ifF (c := (decide (a0.kind = 2))) hb3 h
   try simp only [go_sem]
   refine cond_i (fun hb4 => ?_) (fun hb4 => ?_)
   ·replace h := ifT (c := (decide (a0.kind = 3))) hb4 h
    try simp only [go_sem]
    replace h := bindE h
    obtain ⟨v12002,hv12002,h⟩ := h
    refine call_i (i_isOperator_ok _ _ hv12002) ?_
    try simp only [go_sem]
    have hj := posF_to rfl rfl (i_validCoreNode_j3_ok a0 v12002 (decide (((List.length a0.data : Nat) : Int) = 0)) 2 _ h)
    refine seq_to hj (.one ⟨_,.done _,[],[(1000002500,1000)],?_⟩)
    clear hj
    try simp only [go_sem]
   ·replace h := ifF (c := (decide (a0.kind = 3))) hb4 h
    try simp only [go_sem]
    refine cond_i (fun hb5 => ?_) (fun hb5 => ?_)
    ·replace h := ifT (c := (decide (a0.kind = 4))) hb5 h
     try simp only [go_sem]
     have hj := posF_to rfl rfl (i_validCoreNode_j1_ok a0 (decide (a0.kind = 4)) _ h)
     refine seq_to hj (.one ⟨_,.done _,[],[(1000000500,1000)],?_⟩)
     clear hj
     try simp only [go_sem]
    ·replace h := ifF (c := (decide (a0.kind = 4))) hb5 h
     try simp only [go_sem]
     have hj := posF_to rfl rfl (i_validCoreNode_j1_ok a0 (decide (a0.kind = 6)) _ h)
     refine seq_to hj (.one ⟨_,.done _,[],[(1000000500,1000)],?_⟩)
     clear hj
     try simp only [go_sem]
theorem i_coreShape_all (n : Nat) : (∀ (a0 : Core) (r : Int × Int × Bool),i_coreShape n a0 = some r → AC Tryz.prog 491 [.agg (Core.avs a0)] (.tup [.int .i64 r.1,.int .i64 r.2.1,.bool r.2.2])) ∧
    (∀ (a0 : Core) (p0_0 : Int) (p0_1 : Int) (p0_2 : Int) (r : Int × Int × Bool),i_coreShape_l1 n a0 p0_0 p0_1 p0_2 = some r → posF Tryz.prog Tryz.f491 [1,1,1,0,1,0] (.tup [.int .i64 r.1,.int .i64 r.2.1,.bool r.2.2]) ⟨[(2,.int .i64 p0_0),(3,.int .i64 p0_1),(14,.ro (List.map Core.ds a0.kids)),(15,.int .i64 ((List.length a0.kids : Nat) : Int)),(16,.int .i64 p0_2)],[],[]⟩) := by
 induction n with
 | zero => exact ⟨(fun _ _ h => by rw [i_coreShape] at h; cases h),(fun _ _ _ _ _ h => by rw [i_coreShape_l1] at h; cases h)⟩
 | succ n ih =>
  obtain ⟨ih0,ih1⟩ := ih
  refine ⟨?_,?_⟩
  ·intro a0 r h
   rw [i_coreShape] at h
   refine ac_fn mixed Tryz.func491 rfl rfl rfl (by kernel_rfl) (by kernel_rfl) ?_
   try simp only [go_sem]
   replace h := bindE h
   obtain ⟨v2001,hv2001,h⟩ := h
   refine call_i (i_validCoreNode_ok _ _ hv2001) ?_
   try simp only [go_sem]
   refine seq_go ?_
   try simp only [go_sem]
   refine cond_i (fun hb1 => ?_) (fun hb1 => ?_)
   ·replace h := ifT (c := (!v2001)) hb1 h
    try simp only [go_sem]
    cases h
    simp only [go_sem]
   ·replace h := ifF (c := (!v2001)) hb1 h
    try simp only [go_sem]
    refine seq_go ?_
    try simp only [go_sem]
    have hj := posF_to rfl rfl (ih1 a0 1 1 0 _ h)
    refine loop_to hj (.one ⟨_,.done _,[],[],?_⟩)
    clear hj
    try simp only [go_sem]
  ·intro a0 p0_0 p0_1 p0_2 r h
   rw [i_coreShape_l1] at h
   refine posF_of rfl rfl ?_
   try simp only [go_sem]
   refine loop_i ?_
   try simp only [go_sem]
   refine cond_i (fun hb2 => ?_) (fun hb2 => ?_)
   ·replace h := ifT (c := (decide (p0_2 < ((List.length a0.kids : Nat) : Int)))) hb2 h
    try simp only [go_sem]
    refine seq_go ?_
    try simp only [go_sem]
    replace h := bindE h
    obtain ⟨v7000,hv7000,h⟩ := h
    refine idx_m hv7000 (Core.ds_len _) ?_
    try simp only [go_sem]
    replace h := bindE h
    obtain ⟨v8001,hv8001,h⟩ := h
    refine call_i (ih0 _ _ hv8001) ?_
    try simp only [go_sem]
    refine seq_go ?_
    try simp only [go_sem]
    refine cond_i (fun hb3 => ?_) (fun hb3 => ?_)
    ·replace h := ifT (c := (!v8001.2.2)) hb3 h
     try simp only [go_sem]
     cases h
     simp only [go_sem]
    ·replace h := ifF (c := (!v8001.2.2)) hb3 h
     try simp only [go_sem]
     refine seq_go ?_
     try simp only [go_sem]
     refine seq_go ?_
     try simp only [go_sem]
     have hj := posF_to rfl rfl (ih1 a0 (if p0_0 < (IntKind.i64.wrap (v8001.1 + 1)) then (IntKind.i64.wrap (v8001.1 + 1)) else p0_0) (IntKind.i64.wrap (p0_1 + v8001.2.1)) (IntKind.i64.wrap (p0_2 + 1)) _ h)
     refine lp_to hj (.one ⟨_,.done _,[],[],?_⟩)
     clear hj
     try simp only [go_sem]
   ·replace h := ifF (c := (decide (p0_2 < ((List.length a0.kids : Nat) : Int)))) hb2 h
    try simp only [go_sem]
    refine seq_go ?_
    try simp only [go_sem]
    cases h
    simp only [go_sem]
theorem i_coreShape_ok (n : Nat) : (∀ (a0 : Core) (r : Int × Int × Bool),i_coreShape n a0 = some r → AC Tryz.prog 491 [.agg (Core.avs a0)] (.tup [.int .i64 r.1,.int .i64 r.2.1,.bool r.2.2])) := (i_coreShape_all n).1
theorem i_ValidCore_ok (a0 : Core) (r : Bool) (h : i_ValidCore a0 = some r) : AC Tryz.prog 393 [.agg (Core.avs a0)] (.bool r) := by
 unfold i_ValidCore at h
 refine ac_fn mixed Tryz.func393 rfl rfl rfl (by kernel_rfl) (by kernel_rfl) ?_
 try simp only [go_sem]
 replace h := bindE h
 obtain ⟨v2001,hv2001,h⟩ := h
 refine call_i (i_coreShape_ok fuel _ _ hv2001) ?_
 try simp only [go_sem]
 refine seq_go ?_
 try simp only [go_sem]
 refine cond_i (fun hb1 => ?_) (fun hb1 => ?_)
 ·replace h := ifT (c := v2001.2.2) hb1 h
  try simp only [go_sem]
  replace h := bindE h
  obtain ⟨v3003,hv3003,h⟩ := h
  refine call_i (i_coreFits_ok _ _ hv3003) ?_
  try simp only [go_sem]
  refine seq_go ?_
  try simp only [go_sem]
  cases h
  simp only [go_sem]
 ·replace h := ifF (c := v2001.2.2) hb1 h
  try simp only [go_sem]
  refine seq_go ?_
  try simp only [go_sem]
  cases h
  simp only [go_sem]
theorem i_truth_ok (a0 : Bool) (r : Int) (h : i_truth a0 = some r) : AC Tryz.prog 292 [.bool a0] (.int .i64 r) := by
 unfold i_truth at h
 refine ac_fn mixed Tryz.func292 rfl rfl rfl (by kernel_rfl) (by kernel_rfl) ?_
 try simp only [go_sem]
 refine cond_i (fun hb1 => ?_) (fun hb1 => ?_)
 ·replace h := ifT (c := a0) hb1 h
  try simp only [go_sem]
  cases h
  simp only [go_sem]
 ·replace h := ifF (c := a0) hb1 h
  try simp only [go_sem]
  refine seq_go ?_
  try simp only [go_sem]
  cases h
  simp only [go_sem]
theorem i_Core_binds_ok (a0 : Core) (a1 : Int) (r : Int) (h : i_Core_binds a0 a1 = some r) : AC Tryz.prog 493 [.agg (Core.avs a0),.int .i64 a1] (.int .i64 r) := by
 unfold i_Core_binds at h
 refine ac_fn mixed Tryz.func493 rfl rfl rfl (by kernel_rfl) (by kernel_rfl) ?_
 try simp only [go_sem]
 refine cond_i (fun hb1 => ?_) (fun hb1 => ?_)
 ·replace h := ifT (c := (decide (a0.kind = 4))) hb1 h
  try simp only [go_sem]
  replace h := bindE h
  obtain ⟨v2012,hv2012,h⟩ := h
  refine call_i (i_truth_ok _ _ hv2012) ?_
  try simp only [go_sem]
  refine seq_go ?_
  try simp only [go_sem]
  cases h
  simp only [go_sem]
 ·replace h := ifF (c := (decide (a0.kind = 4))) hb1 h
  try simp only [go_sem]
  refine cond_i (fun hb2 => ?_) (fun hb2 => ?_)
  ·replace h := ifT (c := (decide (a0.kind = 7))) hb2 h
   try simp only [go_sem]
   replace h := bindE h
   obtain ⟨v2012,hv2012,h⟩ := h
   refine call_i (i_truth_ok _ _ hv2012) ?_
   try simp only [go_sem]
   refine seq_go ?_
   try simp only [go_sem]
   cases h
   simp only [go_sem]
  ·replace h := ifF (c := (decide (a0.kind = 7))) hb2 h
   try simp only [go_sem]
   replace h := bindE h
   obtain ⟨v2012,hv2012,h⟩ := h
   refine call_i (i_truth_ok _ _ hv2012) ?_
   try simp only [go_sem]
   refine seq_go ?_
   try simp only [go_sem]
   cases h
   simp only [go_sem]
theorem i_closedBelow_all (n : Nat) : (∀ (a0 : Core) (a1 : Int) (r : Bool),i_closedBelow n a0 a1 = some r → AC Tryz.prog 396 [.agg (Core.avs a0),.int .i64 a1] (.bool r)) ∧
    (∀ (a0 : Core) (a1 : Int) (p0_0 : Bool) (r : Bool),i_closedBelow_j1 n a0 a1 p0_0 = some r → posF Tryz.prog Tryz.f396 [1,0,1] (.bool r) ⟨[(1,.int .i64 a1),(2,.box 1000000500 0),(15,.bool p0_0)],[],[(1000000500,some [.int .i64 a0.kind,.int .i64 a0.value,.ro (List.map i64D a0.data),.ro (List.map Core.ds a0.kids)])]⟩) ∧
    (∀ (a0 : Core) (a1 : Int) (p2_0 : Int) (r : Bool),i_closedBelow_l3 n a0 a1 p2_0 = some r → posF Tryz.prog Tryz.f396 [1,1,0,1,0] (.bool r) ⟨[(1,.int .i64 a1),(2,.box 1000002500 0),(17,.ro (List.map Core.ds a0.kids)),(18,.int .i64 ((List.length a0.kids : Nat) : Int)),(19,.int .i64 p2_0)],[],[(1000002500,some [.int .i64 a0.kind,.int .i64 a0.value,.ro (List.map i64D a0.data),.ro (List.map Core.ds a0.kids)])]⟩) := by
 induction n with
 | zero => exact ⟨(fun _ _ _ h => by rw [i_closedBelow] at h; cases h),(fun _ _ _ _ h => by rw [i_closedBelow_j1] at h; cases h),(fun _ _ _ _ h => by rw [i_closedBelow_l3] at h; cases h)⟩
 | succ n ih =>
  obtain ⟨ih0,ih1,ih2⟩ := ih
  refine ⟨?_,?_,?_⟩
  ·intro a0 a1 r h
   rw [i_closedBelow] at h
   refine ac_fn mixed Tryz.func396 rfl rfl rfl (by kernel_rfl) (by kernel_rfl) ?_
   try simp only [go_sem]
   refine cond_i (fun hb1 => ?_) (fun hb1 => ?_)
   ·replace h := ifT (c := (decide (a0.kind = 1))) hb1 h
    try simp only [go_sem]
    have hj := posF_to rfl rfl (ih1 a0 a1 (decide (a1 ≤ a0.value)) _ h)
    refine seq_to hj (.one ⟨_,.done _,[],[(1000000500,1000)],?_⟩)
    clear hj
    try simp only [go_sem]
   ·replace h := ifF (c := (decide (a0.kind = 1))) hb1 h
    try simp only [go_sem]
    have hj := posF_to rfl rfl (ih1 a0 a1 false _ h)
    refine seq_to hj (.one ⟨_,.done _,[],[(1000000500,1000)],?_⟩)
    clear hj
    try simp only [go_sem]
  ·intro a0 a1 p0_0 r h
   rw [i_closedBelow_j1] at h
   refine posF_of rfl rfl ?_
   try simp only [go_sem]
   refine cond_i (fun hb2 => ?_) (fun hb2 => ?_)
   ·replace h := ifT (c := p0_0) hb2 h
    try simp only [go_sem]
    cases h
    simp only [go_sem]
   ·replace h := ifF (c := p0_0) hb2 h
    try simp only [go_sem]
    refine seq_go ?_
    try simp only [go_sem]
    have hj := posF_to rfl rfl (ih2 a0 a1 0 _ h)
    refine loop_to hj (.one ⟨_,.done _,[],[(1000002500,1000000500)],?_⟩)
    clear hj
    try simp only [go_sem]
  ·intro a0 a1 p2_0 r h
   rw [i_closedBelow_l3] at h
   refine posF_of rfl rfl ?_
   try simp only [go_sem]
   refine loop_i ?_
   try simp only [go_sem]
   refine cond_i (fun hb3 => ?_) (fun hb3 => ?_)
   ·replace h := ifT (c := (decide (p2_0 < ((List.length a0.kids : Nat) : Int)))) hb3 h
    try simp only [go_sem]
    refine seq_go ?_
    try simp only [go_sem]
    replace h := bindE h
    obtain ⟨v6001,hv6001,h⟩ := h
    refine idx_m hv6001 (Core.ds_len _) ?_
    try simp only [go_sem]
    refine draw_i [] .fin (by kernel_rfl) ?_
    try simp only [go_sem]
    replace h := bindE h
    obtain ⟨v7004,hv7004,h⟩ := h
    refine call_i (i_Core_binds_ok _ _ _ hv7004) ?_
    try simp only [go_sem]
    replace h := bindE h
    obtain ⟨v7006,hv7006,h⟩ := h
    refine call_i (ih0 _ _ _ hv7006) ?_
    try simp only [go_sem]
    refine seq_go ?_
    try simp only [go_sem]
    refine cond_i (fun hb4 => ?_) (fun hb4 => ?_)
    ·replace h := ifT (c := (!v7006)) hb4 h
     try simp only [go_sem]
     cases h
     simp only [go_sem]
    ·replace h := ifF (c := (!v7006)) hb4 h
     try simp only [go_sem]
     refine seq_go ?_
     try simp only [go_sem]
     have hj := posF_to rfl rfl (ih2 a0 a1 (IntKind.i64.wrap (p2_0 + 1)) _ h)
     refine lp_to hj (.one ⟨_,.done _,[],[(1000002500,1000002500)],?_⟩)
     clear hj
     try simp only [go_sem]
   ·replace h := ifF (c := (decide (p2_0 < ((List.length a0.kids : Nat) : Int)))) hb3 h
    try simp only [go_sem]
    refine seq_go ?_
    try simp only [go_sem]
    cases h
    simp only [go_sem]
theorem i_closedBelow_ok (n : Nat) : (∀ (a0 : Core) (a1 : Int) (r : Bool),i_closedBelow n a0 a1 = some r → AC Tryz.prog 396 [.agg (Core.avs a0),.int .i64 a1] (.bool r)) := (i_closedBelow_all n).1
theorem i_IsClosed_ok (a0 : Core) (r : Bool) (h : i_IsClosed a0 = some r) : AC Tryz.prog 285 [.agg (Core.avs a0)] (.bool r) := by
 unfold i_IsClosed at h
 refine ac_fn mixed Tryz.func285 rfl rfl rfl (by kernel_rfl) (by kernel_rfl) ?_
 try simp only [go_sem]
 replace h := bindE h
 obtain ⟨v2001,hv2001,h⟩ := h
 refine call_i (i_ValidCore_ok _ _ hv2001) ?_
 try simp only [go_sem]
 refine cond_i (fun hb1 => ?_) (fun hb1 => ?_)
 ·replace h := ifT (c := v2001) hb1 h
  try simp only [go_sem]
  replace h := bindE h
  obtain ⟨v2004,hv2004,h⟩ := h
  refine call_i (i_closedBelow_ok fuel _ _ _ hv2004) ?_
  try simp only [go_sem]
  refine seq_go ?_
  try simp only [go_sem]
  cases h
  simp only [go_sem]
 ·replace h := ifF (c := v2001) hb1 h
  try simp only [go_sem]
  refine seq_go ?_
  try simp only [go_sem]
  cases h
  simp only [go_sem]
theorem i_anyCore_1_all (n : Nat) : (∀ (a0 : Core) (f1 : (Core → Option Bool)) (g1 : FuncId) (c1 : List AV) (s1 : Still c1) (h1 : ∀ (y0 : Core) (q : Bool),f1 y0 = some q → AC Tryz.prog g1 (.agg (Core.avs y0) :: c1) (.bool q)) (r : Bool),i_anyCore_1 n a0 f1 = some r → AC Tryz.prog 492 [.agg (Core.avs a0),.rop [.fn g1 c1] 0] (.bool r)) ∧
    (∀ (a0 : Core) (f1 : (Core → Option Bool)) (g1 : FuncId) (c1 : List AV) (s1 : Still c1) (h1 : ∀ (y0 : Core) (q : Bool),f1 y0 = some q → AC Tryz.prog g1 (.agg (Core.avs y0) :: c1) (.bool q)) (r : Bool),i_anyCore n a0 f1 = some r → AC Tryz.prog 394 [.agg (Core.avs a0),.fn g1 c1] (.bool r)) := by
 induction n with
 | zero => exact ⟨(fun _ _ _ _ _ _ _ h => by rw [i_anyCore_1] at h; cases h),(fun _ _ _ _ _ _ _ h => by rw [i_anyCore] at h; cases h)⟩
 | succ n ih =>
  obtain ⟨ih0,ih1⟩ := ih
  refine ⟨?_,?_⟩
  ·intro a0 f1 g1 c1 s1 h1 r h
   rw [i_anyCore_1] at h
   refine ac_fn mixed Tryz.func492 rfl rfl rfl (by kernel_rfl) (by kernel_rfl) ?_
   try simp only [go_sem,s1.k,s1.r,s1.c,s1.p]
   replace h := bindE h
   obtain ⟨v2002,hv2002,h⟩ := h
   refine call_i (ih1 _ _ g1 c1 s1 h1 _ hv2002) ?_
   try simp only [go_sem,s1.k,s1.r,s1.c,s1.p]
   refine seq_go ?_
   try simp only [go_sem,s1.k,s1.r,s1.c,s1.p]
   cases h
   simp only [go_sem,s1.k,s1.r,s1.c,s1.p]
  ·intro a0 f1 g1 c1 s1 h1 r h
   rw [i_anyCore] at h
   refine ac_fn mixed Tryz.func394 rfl rfl rfl (by kernel_rfl) (by kernel_rfl) ?_
   try simp only [go_sem,s1.k,s1.r,s1.c,s1.p]
   replace h := bindE h
   obtain ⟨v2002,hv2002,h⟩ := h
   refine call_i (h1 _ _ hv2002) ?_
   try simp only [go_sem,s1.k,s1.r,s1.c,s1.p]
   refine cond_i (fun hb1 => ?_) (fun hb1 => ?_)
   ·replace h := ifT (c := v2002) hb1 h
    try simp only [go_sem,s1.k,s1.r,s1.c,s1.p]
    refine seq_go ?_
    try simp only [go_sem,s1.k,s1.r,s1.c,s1.p]
    cases h
    simp only [go_sem,s1.k,s1.r,s1.c,s1.p]
   ·replace h := ifF (c := v2002) hb1 h
    try simp only [go_sem,s1.k,s1.r,s1.c,s1.p]
    replace h := bindE h
    obtain ⟨v2007,hv2007,h⟩ := h
    refine call_i (g_ContainsFunc_simpl_Core_ok _ _ 492 [.rop [.fn g1 c1] 0] (Still.of (by simp only [pureAs,pureA,Bool.and_true,Bool.true_and,Bool.and_self,s1.p])) (fun y0 q hq => ih0 y0 _ g1 c1 s1 h1 q hq) _ hv2007) ?_
    try simp only [go_sem,s1.k,s1.r,s1.c,s1.p]
    refine seq_go ?_
    try simp only [go_sem,s1.k,s1.r,s1.c,s1.p]
    cases h
    simp only [go_sem,s1.k,s1.r,s1.c,s1.p]
theorem i_anyCore_ok (n : Nat) : (∀ (a0 : Core) (f1 : (Core → Option Bool)) (g1 : FuncId) (c1 : List AV) (s1 : Still c1) (h1 : ∀ (y0 : Core) (q : Bool),f1 y0 = some q → AC Tryz.prog g1 (.agg (Core.avs y0) :: c1) (.bool q)) (r : Bool),i_anyCore n a0 f1 = some r → AC Tryz.prog 394 [.agg (Core.avs a0),.fn g1 c1] (.bool r)) := (i_anyCore_1_all n).2
theorem i_namesOnly_1_1_ok (a0 : Int) (a1 : Int) (r : Bool) (h : i_namesOnly_1_1 a0 a1 = some r) : AC Tryz.prog 398 [.int .i64 a0,.rop [.int .i64 a1] 0] (.bool r) := by
 unfold i_namesOnly_1_1 at h
 refine ac_fn mixed Tryz.func398 rfl rfl rfl (by kernel_rfl) (by kernel_rfl) ?_
 try simp only [go_sem]
 cases h
 simp only [go_sem]
theorem i_namesOnly_1_ok (a0 : Core) (a1 : Int) (r : Bool) (h : i_namesOnly_1 a0 a1 = some r) : AC Tryz.prog 397 [.agg (Core.avs a0),.rop [.int .i64 a1] 0] (.bool r) := by
 unfold i_namesOnly_1 at h
 refine ac_fn mixed Tryz.func397 rfl rfl rfl (by kernel_rfl) (by kernel_rfl) ?_
 try simp only [go_sem]
 refine cond_i (fun hb1 => ?_) (fun hb1 => ?_)
 ·replace h := ifT (c := (decide (a0.kind = 11))) hb1 h
  try simp only [go_sem]
  refine cond_i (fun hb2 => ?_) (fun hb2 => ?_)
  ·replace h := ifT (c := (decide (a1 ≤ a0.value))) hb2 h
   try simp only [go_sem]
   refine seq_go ?_
   try simp only [go_sem]
   cases h
   simp only [go_sem]
  ·replace h := ifF (c := (decide (a1 ≤ a0.value))) hb2 h
   try simp only [go_sem]
   replace h := bindE h
   obtain ⟨v2013,hv2013,h⟩ := h
   refine call_i (g_ContainsFunc_sint64_ok _ _ 398 [.rop [.int .i64 a1] 0] (Still.of (by simp only [pureAs,pureA,Bool.and_true,Bool.true_and,Bool.and_self])) (fun y0 q hq => i_namesOnly_1_1_ok y0 _ q hq) _ hv2013) ?_
   try simp only [go_sem]
   refine seq_go ?_
   try simp only [go_sem]
   cases h
   simp only [go_sem]
 ·replace h := ifF (c := (decide (a0.kind = 11))) hb1 h
  try simp only [go_sem]
  replace h := bindE h
  obtain ⟨v2013,hv2013,h⟩ := h
  refine call_i (g_ContainsFunc_sint64_ok _ _ 398 [.rop [.int .i64 a1] 0] (Still.of (by simp only [pureAs,pureA,Bool.and_true,Bool.true_and,Bool.and_self])) (fun y0 q hq => i_namesOnly_1_1_ok y0 _ q hq) _ hv2013) ?_
  try simp only [go_sem]
  refine seq_go ?_
  try simp only [go_sem]
  cases h
  simp only [go_sem]
theorem i_namesOnly_ok (a0 : Core) (a1 : Int) (r : Bool) (h : i_namesOnly a0 a1 = some r) : AC Tryz.prog 286 [.agg (Core.avs a0),.int .i64 a1] (.bool r) := by
 unfold i_namesOnly at h
 refine ac_fn mixed Tryz.func286 rfl rfl rfl (by kernel_rfl) (by kernel_rfl) ?_
 try simp only [go_sem]
 replace h := bindE h
 obtain ⟨v2002,hv2002,h⟩ := h
 refine call_i (i_anyCore_ok fuel _ _ 397 [.rop [.int .i64 a1] 0] (Still.of (by simp only [pureAs,pureA,Bool.and_true,Bool.true_and,Bool.and_self])) (fun y0 q hq => i_namesOnly_1_ok y0 _ q hq) _ hv2002) ?_
 try simp only [go_sem]
 refine seq_go ?_
 try simp only [go_sem]
 cases h
 simp only [go_sem]
theorem i_ValidBook_1_ok (a0 : Core) (a1 : Book) (r : Bool) (h : i_ValidBook_1 a0 a1 = some r) : AC Tryz.prog 391 [.agg (Core.avs a0),.rop (Book.avs a1) 0] (.bool r) := by
 unfold i_ValidBook_1 at h
 refine ac_fn mixed Tryz.func391 rfl rfl rfl (by kernel_rfl) (by kernel_rfl) ?_
 try simp only [go_sem]
 replace h := bindE h
 obtain ⟨v2001,hv2001,h⟩ := h
 refine call_i (i_IsClosed_ok _ _ hv2001) ?_
 try simp only [go_sem]
 refine cond_i (fun hb1 => ?_) (fun hb1 => ?_)
 ·replace h := ifT (c := (!v2001)) hb1 h
  try simp only [go_sem]
  refine seq_go ?_
  try simp only [go_sem]
  cases h
  simp only [go_sem]
 ·replace h := ifF (c := (!v2001)) hb1 h
  try simp only [go_sem]
  replace h := bindE h
  obtain ⟨v2008,hv2008,h⟩ := h
  refine call_i (i_namesOnly_ok _ _ _ hv2008) ?_
  try simp only [go_sem]
  refine seq_go ?_
  try simp only [go_sem]
  cases h
  simp only [go_sem]
theorem i_ValidBook_j1_ok (a0 : Book) (p0_0 : Bool) (r : Bool) (h : i_ValidBook_j1 a0 p0_0 = some r) : posF Tryz.prog Tryz.f281 [1,0,1] (.bool r) ⟨[(1,.box 1000000500 0),(12,.bool p0_0)],[],[(1000000500,some [.ro (List.map Core.ds a0.defs)])]⟩ := by
 unfold i_ValidBook_j1 at h
 refine posF_of rfl rfl ?_
 try simp only [go_sem]
 refine cond_i (fun hb2 => ?_) (fun hb2 => ?_)
 ·replace h := ifT (c := p0_0) hb2 h
  try simp only [go_sem]
  cases h
  simp only [go_sem]
 ·replace h := ifF (c := p0_0) hb2 h
  try simp only [go_sem]
  refine seq_go ?_
  try simp only [go_sem]
  replace h := bindE h
  obtain ⟨v4003,hv4003,h⟩ := h
  refine call_i (g_ContainsFunc_simpl_Core_ok _ _ 391 [.rop [.ro (List.map Core.ds a0.defs)] 0] (Still.of (by simp only [pureAs,pureA,Bool.and_true,Bool.true_and,Bool.and_self])) (fun y0 q hq => i_ValidBook_1_ok y0 _ q hq) _ hv4003) ?_
  try simp only [go_sem]
  refine seq_go ?_
  try simp only [go_sem]
  cases h
  simp only [go_sem]
theorem i_ValidBook_ok (a0 : Book) (r : Bool) (h : i_ValidBook a0 = some r) : AC Tryz.prog 281 [.agg (Book.avs a0)] (.bool r) := by
 unfold i_ValidBook at h
 refine ac_fn mixed Tryz.func281 rfl rfl rfl (by kernel_rfl) (by kernel_rfl) ?_
 try simp only [go_sem]
 refine cond_i (fun hb1 => ?_) (fun hb1 => ?_)
 ·replace h := ifT (c := (decide (((List.length a0.defs : Nat) : Int) < 1))) hb1 h
  try simp only [go_sem]
  have hj := posF_to rfl rfl (i_ValidBook_j1_ok a0 true _ h)
  refine seq_to hj (.one ⟨_,.done _,[],[(1000000500,1000)],?_⟩)
  clear hj
  try simp only [go_sem]
 ·replace h := ifF (c := (decide (((List.length a0.defs : Nat) : Int) < 1))) hb1 h
  try simp only [go_sem]
  have hj := posF_to rfl rfl (i_ValidBook_j1_ok a0 (decide (24 < ((List.length a0.defs : Nat) : Int))) _ h)
  refine seq_to hj (.one ⟨_,.done _,[],[(1000000500,1000)],?_⟩)
  clear hj
  try simp only [go_sem]
theorem s_l00In_ok (a0 : Int) (a1 : Int) (a2 : Int) (r : Bool) (h : s_l00In a0 a1 a2 = some r) : AC Tryz.prog 106 [.int .i64 a0,.int .i64 a1,.int .i64 a2] (.bool r) := by
 unfold s_l00In at h
 refine ac_fn mixed Tryz.func106 rfl rfl rfl (by kernel_rfl) (by kernel_rfl) ?_
 try simp only [go_sem]
 refine cond_i (fun hb1 => ?_) (fun hb1 => ?_)
 ·replace h := ifT (c := (decide (a1 ≤ a0))) hb1 h
  try simp only [go_sem]
  refine seq_go ?_
  try simp only [go_sem]
  cases h
  simp only [go_sem]
 ·replace h := ifF (c := (decide (a1 ≤ a0))) hb1 h
  try simp only [go_sem]
  refine seq_go ?_
  try simp only [go_sem]
  cases h
  simp only [go_sem]
theorem s_l06Shape_j3_ok (a0 : Int) (p2_0 : Bool) (r : Int × Int × Int × Int) (h : s_l06Shape_j3 a0 p2_0 = some r) : posF Tryz.prog Tryz.f387 [1,0,1,0,1,1,1,1,1] (.tup [.int .i64 r.1,.int .i64 r.2.1,.int .i64 r.2.2.1,.int .i64 r.2.2.2]) ⟨[(6,.int .i64 a0),(15,.bool p2_0)],[],[]⟩ := by
 unfold s_l06Shape_j3 at h
 refine posF_of rfl rfl ?_
 try simp only [go_sem]
 refine cond_i (fun hb8 => ?_) (fun hb8 => ?_)
 ·replace h := ifT (c := p2_0) hb8 h
  try simp only [go_sem]
  cases h
  simp only [go_sem]
 ·replace h := ifF (c := p2_0) hb8 h
  try simp only [go_sem]
  refine cond_i (fun hb9 => ?_) (fun hb9 => ?_)
  ·replace h := ifT (c := (decide (a0 = 8))) hb9 h
   try simp only [go_sem]
   cases h
   simp only [go_sem]
  ·replace h := ifF (c := (decide (a0 = 8))) hb9 h
   try simp only [go_sem]
   refine cond_i (fun hb10 => ?_) (fun hb10 => ?_)
   ·replace h := ifT (c := (decide (a0 = 9))) hb10 h
    try simp only [go_sem]
    cases h
    simp only [go_sem]
   ·replace h := ifF (c := (decide (a0 = 9))) hb10 h
    try simp only [go_sem]
    refine cond_i (fun hb11 => ?_) (fun hb11 => ?_)
    ·replace h := ifT (c := (decide (a0 = 10))) hb11 h
     try simp only [go_sem]
     cases h
     simp only [go_sem]
    ·replace h := ifF (c := (decide (a0 = 10))) hb11 h
     try simp only [go_sem]
     refine seq_go ?_
     try simp only [go_sem]
     cases h
     simp only [go_sem]
theorem s_l06Shape_j2_ok (a0 : Int) (p1_0 : Bool) (r : Int × Int × Int × Int) (h : s_l06Shape_j2 a0 p1_0 = some r) : posF Tryz.prog Tryz.f387 [1,0,1,0,1,1,1] (.tup [.int .i64 r.1,.int .i64 r.2.1,.int .i64 r.2.2.1,.int .i64 r.2.2.2]) ⟨[(6,.int .i64 a0),(11,.bool p1_0)],[],[]⟩ := by
 unfold s_l06Shape_j2 at h
 refine posF_of rfl rfl ?_
 try simp only [go_sem]
 refine cond_i (fun hb6 => ?_) (fun hb6 => ?_)
 ·replace h := ifT (c := p1_0) hb6 h
  try simp only [go_sem]
  cases h
  simp only [go_sem]
 ·replace h := ifF (c := p1_0) hb6 h
  try simp only [go_sem]
  refine cond_i (fun hb7 => ?_) (fun hb7 => ?_)
  ·replace h := ifT (c := (decide (a0 = 4))) hb7 h
   try simp only [go_sem]
   have hj := posF_to rfl rfl (s_l06Shape_j3_ok a0 (decide (a0 = 4)) _ h)
   refine seq_to hj (.one ⟨_,.done _,[],[],?_⟩)
   clear hj
   try simp only [go_sem]
  ·replace h := ifF (c := (decide (a0 = 4))) hb7 h
   try simp only [go_sem]
   have hj := posF_to rfl rfl (s_l06Shape_j3_ok a0 (decide (a0 = 6)) _ h)
   refine seq_to hj (.one ⟨_,.done _,[],[],?_⟩)
   clear hj
   try simp only [go_sem]
theorem s_l06Shape_j1_ok (a0 : Int) (p0_0 : Bool) (r : Int × Int × Int × Int) (h : s_l06Shape_j1 a0 p0_0 = some r) : posF Tryz.prog Tryz.f387 [1,0,1,0,1] (.tup [.int .i64 r.1,.int .i64 r.2.1,.int .i64 r.2.2.1,.int .i64 r.2.2.2]) ⟨[(6,.int .i64 a0),(7,.bool p0_0)],[],[]⟩ := by
 unfold s_l06Shape_j1 at h
 refine posF_of rfl rfl ?_
 try simp only [go_sem]
 refine cond_i (fun hb3 => ?_) (fun hb3 => ?_)
 ·replace h := ifT (c := p0_0) hb3 h
  try simp only [go_sem]
  cases h
  simp only [go_sem]
 ·replace h := ifF (c := p0_0) hb3 h
  try simp only [go_sem]
  refine cond_i (fun hb4 => ?_) (fun hb4 => ?_)
  ·replace h := ifT (c := (decide (a0 = 3))) hb4 h
   try simp only [go_sem]
   have hj := posF_to rfl rfl (s_l06Shape_j2_ok a0 (decide (a0 = 3)) _ h)
   refine seq_to hj (.one ⟨_,.done _,[],[],?_⟩)
   clear hj
   try simp only [go_sem]
  ·replace h := ifF (c := (decide (a0 = 3))) hb4 h
   try simp only [go_sem]
   refine cond_i (fun hb5 => ?_) (fun hb5 => ?_)
   ·replace h := ifT (c := (decide (a0 = 5))) hb5 h
    try simp only [go_sem]
    have hj := posF_to rfl rfl (s_l06Shape_j2_ok a0 (decide (a0 = 5)) _ h)
    refine seq_to hj (.one ⟨_,.done _,[],[],?_⟩)
    clear hj
    try simp only [go_sem]
   ·replace h := ifF (c := (decide (a0 = 5))) hb5 h
    try simp only [go_sem]
    have hj := posF_to rfl rfl (s_l06Shape_j2_ok a0 (decide (a0 = 7)) _ h)
    refine seq_to hj (.one ⟨_,.done _,[],[],?_⟩)
    clear hj
    try simp only [go_sem]
theorem s_l06Shape_ok (a0 : Int) (r : Int × Int × Int × Int) (h : s_l06Shape a0 = some r) : AC Tryz.prog 387 [.int .i64 a0] (.tup [.int .i64 r.1,.int .i64 r.2.1,.int .i64 r.2.2.1,.int .i64 r.2.2.2]) := by
 unfold s_l06Shape at h
 refine ac_fn mixed Tryz.func387 rfl rfl rfl (by kernel_rfl) (by kernel_rfl) ?_
 try simp only [go_sem]
 refine cond_i (fun hb1 => ?_) (fun hb1 => ?_)
 ·replace h := ifT (c := (decide (a0 = 1))) hb1 h
  try simp only [go_sem]
  have hj := posF_to rfl rfl (s_l06Shape_j1_ok a0 (decide (a0 = 1)) _ h)
  refine seq_to hj (.one ⟨_,.done _,[],[],?_⟩)
  clear hj
  try simp only [go_sem]
 ·replace h := ifF (c := (decide (a0 = 1))) hb1 h
  try simp only [go_sem]
  refine cond_i (fun hb2 => ?_) (fun hb2 => ?_)
  ·replace h := ifT (c := (decide (a0 = 2))) hb2 h
   try simp only [go_sem]
   have hj := posF_to rfl rfl (s_l06Shape_j1_ok a0 (decide (a0 = 2)) _ h)
   refine seq_to hj (.one ⟨_,.done _,[],[],?_⟩)
   clear hj
   try simp only [go_sem]
  ·replace h := ifF (c := (decide (a0 = 2))) hb2 h
   try simp only [go_sem]
   have hj := posF_to rfl rfl (s_l06Shape_j1_ok a0 (decide (a0 = 11)) _ h)
   refine seq_to hj (.one ⟨_,.done _,[],[],?_⟩)
   clear hj
   try simp only [go_sem]
theorem s_l06Value_ok (a0 : Core) (r : Bool) (h : s_l06Value a0 = some r) : AC Tryz.prog 388 [.rop (Core.avs a0) 0] (.bool r) := by
 unfold s_l06Value at h
 refine ac_fn mixed Tryz.func388 rfl rfl rfl (by kernel_rfl) (by kernel_rfl) ?_
 try simp only [go_sem]
 refine cond_i (fun hb1 => ?_) (fun hb1 => ?_)
 ·replace h := ifT (c := (decide (a0.kind = 1))) hb1 h
  try simp only [go_sem]
  replace h := bindE h
  obtain ⟨v4004,hv4004,h⟩ := h
  refine call_i (s_l00In_ok _ _ _ _ hv4004) ?_
  try simp only [go_sem]
  refine seq_go ?_
  try simp only [go_sem]
  cases h
  simp only [go_sem]
 ·replace h := ifF (c := (decide (a0.kind = 1))) hb1 h
  try simp only [go_sem]
  refine cond_i (fun hb2 => ?_) (fun hb2 => ?_)
  ·replace h := ifT (c := (decide (a0.kind = 2))) hb2 h
   try simp only [go_sem]
   replace h := bindE h
   obtain ⟨v6004,hv6004,h⟩ := h
   refine call_i (s_l00In_ok _ _ _ _ hv6004) ?_
   try simp only [go_sem]
   refine seq_go ?_
   try simp only [go_sem]
   cases h
   simp only [go_sem]
  ·replace h := ifF (c := (decide (a0.kind = 2))) hb2 h
   try simp only [go_sem]
   refine cond_i (fun hb3 => ?_) (fun hb3 => ?_)
   ·replace h := ifT (c := (decide (a0.kind = 3))) hb3 h
    try simp only [go_sem]
    replace h := bindE h
    obtain ⟨v8004,hv8004,h⟩ := h
    refine call_i (s_l00In_ok _ _ _ _ hv8004) ?_
    try simp only [go_sem]
    refine seq_go ?_
    try simp only [go_sem]
    cases h
    simp only [go_sem]
   ·replace h := ifF (c := (decide (a0.kind = 3))) hb3 h
    try simp only [go_sem]
    refine cond_i (fun hb4 => ?_) (fun hb4 => ?_)
    ·replace h := ifT (c := (decide (a0.kind = 8))) hb4 h
     try simp only [go_sem]
     replace h := bindE h
     obtain ⟨v10004,hv10004,h⟩ := h
     refine call_i (s_l00In_ok _ _ _ _ hv10004) ?_
     try simp only [go_sem]
     refine seq_go ?_
     try simp only [go_sem]
     cases h
     simp only [go_sem]
    ·replace h := ifF (c := (decide (a0.kind = 8))) hb4 h
     try simp only [go_sem]
     refine cond_i (fun hb5 => ?_) (fun hb5 => ?_)
     ·replace h := ifT (c := (decide (a0.kind = 11))) hb5 h
      try simp only [go_sem]
      replace h := bindE h
      obtain ⟨v12004,hv12004,h⟩ := h
      refine call_i (s_l00In_ok _ _ _ _ hv12004) ?_
      try simp only [go_sem]
      refine seq_go ?_
      try simp only [go_sem]
      cases h
      simp only [go_sem]
     ·replace h := ifF (c := (decide (a0.kind = 11))) hb5 h
      try simp only [go_sem]
      refine seq_go ?_
      try simp only [go_sem]
      cases h
      simp only [go_sem]
theorem s_l06Nodes_all (n : Nat) : (∀ (a0 : Core) (a1 : Int) (a2 : Int) (r : Int),s_l06Nodes n a0 a1 a2 = some r → AC Tryz.prog 271 [.rop (Core.avs a0) 0,.int .i64 a1,.int .i64 a2] (.int .i64 r)) ∧
    (∀ (a0 : Core) (a1 : Int) (a2 : Int) (p0_0 : Bool) (r : Int),s_l06Nodes_j1 n a0 a1 a2 p0_0 = some r → posF Tryz.prog Tryz.f271 [1,1,0,1] (.int .i64 r) ⟨[(0,.rop [.int .i64 a0.kind,.int .i64 a0.value,.ro (List.map i64D a0.data),.ro (List.map Core.ds a0.kids)] 0),(1,.int .i64 a1),(2,.int .i64 a2),(57,.bool p0_0)],[],[]⟩) ∧
    (∀ (a0 : Core) (a1 : Int) (a2 : Int) (p1_0 : Int) (r : Int),s_l06Nodes_l2 n a0 a1 a2 p1_0 = some r → posF Tryz.prog Tryz.f271 [1,1,1,0,1,0] (.int .i64 r) ⟨[(0,.rop [.int .i64 a0.kind,.int .i64 a0.value,.ro (List.map i64D a0.data),.ro (List.map Core.ds a0.kids)] 0),(1,.int .i64 a1),(2,.int .i64 a2),(11,.int .i64 p1_0)],[],[]⟩) ∧
    (∀ (a0 : Core) (a1 : Int) (a2 : Int) (p2_0 : Int) (p2_1 : Int) (r : Int),s_l06Nodes_l3 n a0 a1 a2 p2_0 p2_1 = some r → posF Tryz.prog Tryz.f271 [1,1,1,1,1,0,1,0] (.int .i64 r) ⟨[(0,.rop [.int .i64 a0.kind,.int .i64 a0.value,.ro (List.map i64D a0.data),.ro (List.map Core.ds a0.kids)] 0),(1,.int .i64 a1),(2,.int .i64 a2),(12,.int .i64 p2_0),(13,.int .i64 p2_1)],[],[]⟩) := by
 induction n with
 | zero => exact ⟨(fun _ _ _ _ h => by rw [s_l06Nodes] at h; cases h),(fun _ _ _ _ _ h => by rw [s_l06Nodes_j1] at h; cases h),(fun _ _ _ _ _ h => by rw [s_l06Nodes_l2] at h; cases h),(fun _ _ _ _ _ _ h => by rw [s_l06Nodes_l3] at h; cases h)⟩
 | succ n ih =>
  obtain ⟨ih0,ih1,ih2,ih3⟩ := ih
  refine ⟨?_,?_,?_,?_⟩
  ·intro a0 a1 a2 r h
   rw [s_l06Nodes] at h
   refine ac_fn mixed Tryz.func271 rfl rfl rfl (by kernel_rfl) (by kernel_rfl) ?_
   try simp only [go_sem]
   replace h := bindE h
   obtain ⟨v2004,hv2004,h⟩ := h
   refine call_i (s_l06Shape_ok _ _ hv2004) ?_
   try simp only [go_sem]
   refine seq_go ?_
   try simp only [go_sem]
   refine cond_i (fun hb1 => ?_) (fun hb1 => ?_)
   ·replace h := ifT (c := (decide (a1 < 1))) hb1 h
    try simp only [go_sem]
    have hj := posF_to rfl rfl (ih1 a0 a1 a2 true _ h)
    refine seq_to hj (.one ⟨_,.done _,[],[],?_⟩)
    clear hj
    try simp only [go_sem]
   ·replace h := ifF (c := (decide (a1 < 1))) hb1 h
    try simp only [go_sem]
    refine cond_i (fun hb2 => ?_) (fun hb2 => ?_)
    ·replace h := ifT (c := (decide (a2 < 1))) hb2 h
     try simp only [go_sem]
     have hj := posF_to rfl rfl (ih1 a0 a1 a2 true _ h)
     refine seq_to hj (.one ⟨_,.done _,[],[],?_⟩)
     clear hj
     try simp only [go_sem]
    ·replace h := ifF (c := (decide (a2 < 1))) hb2 h
     try simp only [go_sem]
     replace h := bindE h
     obtain ⟨v3014,hv3014,h⟩ := h
     refine call_i (s_l00In_ok _ _ _ _ hv3014) ?_
     try simp only [go_sem]
     refine cond_i (fun hb3 => ?_) (fun hb3 => ?_)
     ·replace h := ifT (c := (!v3014)) hb3 h
      try simp only [go_sem]
      have hj := posF_to rfl rfl (ih1 a0 a1 a2 true _ h)
      refine seq_to hj (.one ⟨_,.done _,[],[],?_⟩)
      clear hj
      try simp only [go_sem]
     ·replace h := ifF (c := (!v3014)) hb3 h
      try simp only [go_sem]
      replace h := bindE h
      obtain ⟨v3025,hv3025,h⟩ := h
      refine call_i (s_l00In_ok _ _ _ _ hv3025) ?_
      try simp only [go_sem]
      refine cond_i (fun hb4 => ?_) (fun hb4 => ?_)
      ·replace h := ifT (c := (!v3025)) hb4 h
       try simp only [go_sem]
       have hj := posF_to rfl rfl (ih1 a0 a1 a2 true _ h)
       refine seq_to hj (.one ⟨_,.done _,[],[],?_⟩)
       clear hj
       try simp only [go_sem]
      ·replace h := ifF (c := (!v3025)) hb4 h
       try simp only [go_sem]
       replace h := bindE h
       obtain ⟨v3030,hv3030,h⟩ := h
       refine call_i (s_l06Value_ok _ _ hv3030) ?_
       try simp only [go_sem]
       have hj := posF_to rfl rfl (ih1 a0 a1 a2 (!v3030) _ h)
       refine seq_to hj (.one ⟨_,.done _,[],[],?_⟩)
       clear hj
       try simp only [go_sem]
  ·intro a0 a1 a2 p0_0 r h
   rw [s_l06Nodes_j1] at h
   refine posF_of rfl rfl ?_
   try simp only [go_sem]
   refine cond_i (fun hb5 => ?_) (fun hb5 => ?_)
   ·replace h := ifT (c := p0_0) hb5 h
    try simp only [go_sem]
    cases h
    simp only [go_sem]
   ·replace h := ifF (c := p0_0) hb5 h
    try simp only [go_sem]
    refine seq_go ?_
    try simp only [go_sem]
    have hj := posF_to rfl rfl (ih2 a0 a1 a2 0 _ h)
    refine loop_to hj (.one ⟨_,.done _,[],[],?_⟩)
    clear hj
    try simp only [go_sem]
  ·intro a0 a1 a2 p1_0 r h
   rw [s_l06Nodes_l2] at h
   refine posF_of rfl rfl ?_
   try simp only [go_sem]
   refine loop_i ?_
   try simp only [go_sem]
   refine cond_i (fun hb6 => ?_) (fun hb6 => ?_)
   ·replace h := ifT (c := (decide (p1_0 < ((List.length a0.data : Nat) : Int)))) hb6 h
    try simp only [go_sem]
    refine seq_go ?_
    try simp only [go_sem]
    replace h := bindE h
    obtain ⟨v8005,hv8005,h⟩ := h
    refine idx_m hv8005 rfl ?_
    try simp only [go_sem]
    replace h := bindE h
    obtain ⟨v8007,hv8007,h⟩ := h
    refine call_i (s_l00In_ok _ _ _ _ hv8007) ?_
    try simp only [go_sem]
    refine seq_go ?_
    try simp only [go_sem]
    refine cond_i (fun hb7 => ?_) (fun hb7 => ?_)
    ·replace h := ifT (c := (!v8007)) hb7 h
     try simp only [go_sem]
     cases h
     simp only [go_sem]
    ·replace h := ifF (c := (!v8007)) hb7 h
     try simp only [go_sem]
     refine seq_go ?_
     try simp only [go_sem]
     have hj := posF_to rfl rfl (ih2 a0 a1 a2 (IntKind.i64.wrap (p1_0 + 1)) _ h)
     refine lp_to hj (.one ⟨_,.done _,[],[],?_⟩)
     clear hj
     try simp only [go_sem]
   ·replace h := ifF (c := (decide (p1_0 < ((List.length a0.data : Nat) : Int)))) hb6 h
    try simp only [go_sem]
    refine seq_go ?_
    try simp only [go_sem]
    have hj := posF_to rfl rfl (ih3 a0 a1 a2 1 0 _ h)
    refine loop_to hj (.one ⟨_,.done _,[],[],?_⟩)
    clear hj
    try simp only [go_sem]
  ·intro a0 a1 a2 p2_0 p2_1 r h
   rw [s_l06Nodes_l3] at h
   refine posF_of rfl rfl ?_
   try simp only [go_sem]
   refine loop_i ?_
   try simp only [go_sem]
   refine cond_i (fun hb8 => ?_) (fun hb8 => ?_)
   ·replace h := ifT (c := (decide (p2_1 < ((List.length a0.kids : Nat) : Int)))) hb8 h
    try simp only [go_sem]
    refine seq_go ?_
    try simp only [go_sem]
    replace h := bindE h
    obtain ⟨v14005,hv14005,h⟩ := h
    refine idx_m hv14005 (Core.ds_len _) ?_
    try simp only [go_sem]
    replace h := bindE h
    obtain ⟨v14011,hv14011,h⟩ := h
    refine call_i (ih0 _ _ _ _ hv14011) ?_
    try simp only [go_sem]
    refine seq_go ?_
    try simp only [go_sem]
    refine cond_i (fun hb9 => ?_) (fun hb9 => ?_)
    ·replace h := ifT (c := (decide (v14011 < 0))) hb9 h
     try simp only [go_sem]
     cases h
     simp only [go_sem]
    ·replace h := ifF (c := (decide (v14011 < 0))) hb9 h
     try simp only [go_sem]
     refine seq_go ?_
     try simp only [go_sem]
     refine seq_go ?_
     try simp only [go_sem]
     have hj := posF_to rfl rfl (ih3 a0 a1 a2 (IntKind.i64.wrap (p2_0 + v14011)) (IntKind.i64.wrap (p2_1 + 1)) _ h)
     refine lp_to hj (.one ⟨_,.done _,[],[],?_⟩)
     clear hj
     try simp only [go_sem]
   ·replace h := ifF (c := (decide (p2_1 < ((List.length a0.kids : Nat) : Int)))) hb8 h
    try simp only [go_sem]
    refine seq_go ?_
    try simp only [go_sem]
    cases h
    simp only [go_sem]
theorem s_l06Nodes_ok (n : Nat) : (∀ (a0 : Core) (a1 : Int) (a2 : Int) (r : Int),s_l06Nodes n a0 a1 a2 = some r → AC Tryz.prog 271 [.rop (Core.avs a0) 0,.int .i64 a1,.int .i64 a2] (.int .i64 r)) := (s_l06Nodes_all n).1
theorem s_l06Ok_ok (a0 : Core) (r : Bool) (h : s_l06Ok a0 = some r) : AC Tryz.prog 268 [.rop (Core.avs a0) 0] (.bool r) := by
 unfold s_l06Ok at h
 refine ac_fn mixed Tryz.func268 rfl rfl rfl (by kernel_rfl) (by kernel_rfl) ?_
 try simp only [go_sem]
 replace h := bindE h
 obtain ⟨v2001,hv2001,h⟩ := h
 refine call_i (s_l06Nodes_ok fuel _ _ _ _ hv2001) ?_
 try simp only [go_sem]
 refine seq_go ?_
 try simp only [go_sem]
 cases h
 simp only [go_sem]
theorem s_l06Binds_j1_ok (p0_0 : Bool) (r : Int) (h : s_l06Binds_j1 p0_0 = some r) : posF Tryz.prog Tryz.f280 [1,0,1] (.int .i64 r) ⟨[(20,.bool p0_0)],[],[]⟩ := by
 unfold s_l06Binds_j1 at h
 refine posF_of rfl rfl ?_
 try simp only [go_sem]
 refine cond_i (fun hb3 => ?_) (fun hb3 => ?_)
 ·replace h := ifT (c := p0_0) hb3 h
  try simp only [go_sem]
  cases h
  simp only [go_sem]
 ·replace h := ifF (c := p0_0) hb3 h
  try simp only [go_sem]
  refine seq_go ?_
  try simp only [go_sem]
  cases h
  simp only [go_sem]
theorem s_l06Binds_ok (a0 : Core) (a1 : Int) (r : Int) (h : s_l06Binds a0 a1 = some r) : AC Tryz.prog 280 [.rop (Core.avs a0) 0,.int .i64 a1] (.int .i64 r) := by
 unfold s_l06Binds at h
 refine ac_fn mixed Tryz.func280 rfl rfl rfl (by kernel_rfl) (by kernel_rfl) ?_
 try simp only [go_sem]
 refine cond_i (fun hb1 => ?_) (fun hb1 => ?_)
 ·replace h := ifT (c := (decide (a0.kind = 4))) hb1 h
  try simp only [go_sem]
  have hj := posF_to rfl rfl (s_l06Binds_j1_ok true _ h)
  refine seq_to hj (.one ⟨_,.done _,[],[],?_⟩)
  clear hj
  try simp only [go_sem]
 ·replace h := ifF (c := (decide (a0.kind = 4))) hb1 h
  try simp only [go_sem]
  refine cond_i (fun hb2 => ?_) (fun hb2 => ?_)
  ·replace h := ifT (c := (decide (a0.kind = 7))) hb2 h
   try simp only [go_sem]
   have hj := posF_to rfl rfl (s_l06Binds_j1_ok (decide (a1 = 1)) _ h)
   refine seq_to hj (.one ⟨_,.done _,[],[],?_⟩)
   clear hj
   try simp only [go_sem]
  ·replace h := ifF (c := (decide (a0.kind = 7))) hb2 h
   try simp only [go_sem]
   have hj := posF_to rfl rfl (s_l06Binds_j1_ok false _ h)
   refine seq_to hj (.one ⟨_,.done _,[],[],?_⟩)
   clear hj
   try simp only [go_sem]
theorem s_l06Above_all (n : Nat) : (∀ (a0 : Core) (a1 : Int) (r : Bool),s_l06Above n a0 a1 = some r → AC Tryz.prog 269 [.rop (Core.avs a0) 0,.int .i64 a1] (.bool r)) ∧
    (∀ (a0 : Core) (a1 : Int) (p0_0 : Int) (r : Bool),s_l06Above_l1 n a0 a1 p0_0 = some r → posF Tryz.prog Tryz.f269 [1,1,0,1,0] (.bool r) ⟨[(0,.rop [.int .i64 a0.kind,.int .i64 a0.value,.ro (List.map i64D a0.data),.ro (List.map Core.ds a0.kids)] 0),(1,.int .i64 a1),(5,.int .i64 p0_0)],[],[]⟩) := by
 induction n with
 | zero => exact ⟨(fun _ _ _ h => by rw [s_l06Above] at h; cases h),(fun _ _ _ _ h => by rw [s_l06Above_l1] at h; cases h)⟩
 | succ n ih =>
  obtain ⟨ih0,ih1⟩ := ih
  refine ⟨?_,?_⟩
  ·intro a0 a1 r h
   rw [s_l06Above] at h
   refine ac_fn mixed Tryz.func269 rfl rfl rfl (by kernel_rfl) (by kernel_rfl) ?_
   try simp only [go_sem]
   refine cond_i (fun hb1 => ?_) (fun hb1 => ?_)
   ·replace h := ifT (c := (decide (a0.kind = 1))) hb1 h
    try simp only [go_sem]
    cases h
    simp only [go_sem]
   ·replace h := ifF (c := (decide (a0.kind = 1))) hb1 h
    try simp only [go_sem]
    refine seq_go ?_
    try simp only [go_sem]
    have hj := posF_to rfl rfl (ih1 a0 a1 0 _ h)
    refine loop_to hj (.one ⟨_,.done _,[],[],?_⟩)
    clear hj
    try simp only [go_sem]
  ·intro a0 a1 p0_0 r h
   rw [s_l06Above_l1] at h
   refine posF_of rfl rfl ?_
   try simp only [go_sem]
   refine loop_i ?_
   try simp only [go_sem]
   refine cond_i (fun hb2 => ?_) (fun hb2 => ?_)
   ·replace h := ifT (c := (decide (p0_0 < ((List.length a0.kids : Nat) : Int)))) hb2 h
    try simp only [go_sem]
    refine seq_go ?_
    try simp only [go_sem]
    refine draw_i [] .fin (by kernel_rfl) ?_
    try simp only [go_sem]
    replace h := bindE h
    obtain ⟨v7005,hv7005,h⟩ := h
    refine idx_m hv7005 (Core.ds_len _) ?_
    try simp only [go_sem]
    replace h := bindE h
    obtain ⟨v7009,hv7009,h⟩ := h
    refine call_i (s_l06Binds_ok _ _ _ hv7009) ?_
    try simp only [go_sem]
    replace h := bindE h
    obtain ⟨v7011,hv7011,h⟩ := h
    refine call_i (ih0 _ _ _ hv7011) ?_
    try simp only [go_sem]
    refine seq_go ?_
    try simp only [go_sem]
    refine cond_i (fun hb3 => ?_) (fun hb3 => ?_)
    ·replace h := ifT (c := v7011) hb3 h
     try simp only [go_sem]
     cases h
     simp only [go_sem]
    ·replace h := ifF (c := v7011) hb3 h
     try simp only [go_sem]
     refine seq_go ?_
     try simp only [go_sem]
     have hj := posF_to rfl rfl (ih1 a0 a1 (IntKind.i64.wrap (p0_0 + 1)) _ h)
     refine lp_to hj (.one ⟨_,.done _,[],[],?_⟩)
     clear hj
     try simp only [go_sem]
   ·replace h := ifF (c := (decide (p0_0 < ((List.length a0.kids : Nat) : Int)))) hb2 h
    try simp only [go_sem]
    refine seq_go ?_
    try simp only [go_sem]
    cases h
    simp only [go_sem]
theorem s_l06Above_ok (n : Nat) : (∀ (a0 : Core) (a1 : Int) (r : Bool),s_l06Above n a0 a1 = some r → AC Tryz.prog 269 [.rop (Core.avs a0) 0,.int .i64 a1] (.bool r)) := (s_l06Above_all n).1
theorem s_l06Closed_ok (a0 : Core) (r : Bool) (h : s_l06Closed a0 = some r) : AC Tryz.prog 142 [.rop (Core.avs a0) 0] (.bool r) := by
 unfold s_l06Closed at h
 refine ac_fn mixed Tryz.func142 rfl rfl rfl (by kernel_rfl) (by kernel_rfl) ?_
 try simp only [go_sem]
 replace h := bindE h
 obtain ⟨v2001,hv2001,h⟩ := h
 refine call_i (s_l06Ok_ok _ _ hv2001) ?_
 try simp only [go_sem]
 refine cond_i (fun hb1 => ?_) (fun hb1 => ?_)
 ·replace h := ifT (c := v2001) hb1 h
  try simp only [go_sem]
  replace h := bindE h
  obtain ⟨v2004,hv2004,h⟩ := h
  refine call_i (s_l06Above_ok fuel _ _ _ hv2004) ?_
  try simp only [go_sem]
  refine seq_go ?_
  try simp only [go_sem]
  cases h
  simp only [go_sem]
 ·replace h := ifF (c := v2001) hb1 h
  try simp only [go_sem]
  refine seq_go ?_
  try simp only [go_sem]
  cases h
  simp only [go_sem]
theorem s_l06Refs_all (n : Nat) : (∀ (a0 : Core) (a1 : Int) (r : Bool),s_l06Refs n a0 a1 = some r → AC Tryz.prog 144 [.rop (Core.avs a0) 0,.int .i64 a1] (.bool r)) ∧
    (∀ (a0 : Core) (a1 : Int) (p0_0 : Bool) (r : Bool),s_l06Refs_j1 n a0 a1 p0_0 = some r → posF Tryz.prog Tryz.f144 [1,0,1] (.bool r) ⟨[(0,.rop [.int .i64 a0.kind,.int .i64 a0.value,.ro (List.map i64D a0.data),.ro (List.map Core.ds a0.kids)] 0),(1,.int .i64 a1),(19,.bool p0_0)],[],[]⟩) ∧
    (∀ (a0 : Core) (a1 : Int) (p1_0 : Int) (r : Bool),s_l06Refs_l2 n a0 a1 p1_0 = some r → posF Tryz.prog Tryz.f144 [1,1,0,1,0] (.bool r) ⟨[(0,.rop [.int .i64 a0.kind,.int .i64 a0.value,.ro (List.map i64D a0.data),.ro (List.map Core.ds a0.kids)] 0),(1,.int .i64 a1),(5,.int .i64 p1_0)],[],[]⟩) ∧
    (∀ (a0 : Core) (a1 : Int) (p2_0 : Int) (r : Bool),s_l06Refs_l3 n a0 a1 p2_0 = some r → posF Tryz.prog Tryz.f144 [1,1,1,0,1,0] (.bool r) ⟨[(0,.rop [.int .i64 a0.kind,.int .i64 a0.value,.ro (List.map i64D a0.data),.ro (List.map Core.ds a0.kids)] 0),(1,.int .i64 a1),(6,.int .i64 p2_0)],[],[]⟩) := by
 induction n with
 | zero => exact ⟨(fun _ _ _ h => by rw [s_l06Refs] at h; cases h),(fun _ _ _ _ h => by rw [s_l06Refs_j1] at h; cases h),(fun _ _ _ _ h => by rw [s_l06Refs_l2] at h; cases h),(fun _ _ _ _ h => by rw [s_l06Refs_l3] at h; cases h)⟩
 | succ n ih =>
  obtain ⟨ih0,ih1,ih2,ih3⟩ := ih
  refine ⟨?_,?_,?_,?_⟩
  ·intro a0 a1 r h
   rw [s_l06Refs] at h
   refine ac_fn mixed Tryz.func144 rfl rfl rfl (by kernel_rfl) (by kernel_rfl) ?_
   try simp only [go_sem]
   refine cond_i (fun hb1 => ?_) (fun hb1 => ?_)
   ·replace h := ifT (c := (decide (a0.kind = 11))) hb1 h
    try simp only [go_sem]
    have hj := posF_to rfl rfl (ih1 a0 a1 (decide (a1 ≤ a0.value)) _ h)
    refine seq_to hj (.one ⟨_,.done _,[],[],?_⟩)
    clear hj
    try simp only [go_sem]
   ·replace h := ifF (c := (decide (a0.kind = 11))) hb1 h
    try simp only [go_sem]
    have hj := posF_to rfl rfl (ih1 a0 a1 false _ h)
    refine seq_to hj (.one ⟨_,.done _,[],[],?_⟩)
    clear hj
    try simp only [go_sem]
  ·intro a0 a1 p0_0 r h
   rw [s_l06Refs_j1] at h
   refine posF_of rfl rfl ?_
   try simp only [go_sem]
   refine cond_i (fun hb2 => ?_) (fun hb2 => ?_)
   ·replace h := ifT (c := p0_0) hb2 h
    try simp only [go_sem]
    cases h
    simp only [go_sem]
   ·replace h := ifF (c := p0_0) hb2 h
    try simp only [go_sem]
    refine seq_go ?_
    try simp only [go_sem]
    have hj := posF_to rfl rfl (ih2 a0 a1 0 _ h)
    refine loop_to hj (.one ⟨_,.done _,[],[],?_⟩)
    clear hj
    try simp only [go_sem]
  ·intro a0 a1 p1_0 r h
   rw [s_l06Refs_l2] at h
   refine posF_of rfl rfl ?_
   try simp only [go_sem]
   refine loop_i ?_
   try simp only [go_sem]
   refine cond_i (fun hb3 => ?_) (fun hb3 => ?_)
   ·replace h := ifT (c := (decide (p1_0 < ((List.length a0.data : Nat) : Int)))) hb3 h
    try simp only [go_sem]
    refine seq_go ?_
    try simp only [go_sem]
    replace h := bindE h
    obtain ⟨v7005,hv7005,h⟩ := h
    refine idx_m hv7005 rfl ?_
    try simp only [go_sem]
    refine cond_i (fun hb4 => ?_) (fun hb4 => ?_)
    ·replace h := ifT (c := (decide (a1 ≤ v7005))) hb4 h
     try simp only [go_sem]
     cases h
     simp only [go_sem]
    ·replace h := ifF (c := (decide (a1 ≤ v7005))) hb4 h
     try simp only [go_sem]
     refine seq_go ?_
     try simp only [go_sem]
     have hj := posF_to rfl rfl (ih2 a0 a1 (IntKind.i64.wrap (p1_0 + 1)) _ h)
     refine lp_to hj (.one ⟨_,.done _,[],[],?_⟩)
     clear hj
     try simp only [go_sem]
   ·replace h := ifF (c := (decide (p1_0 < ((List.length a0.data : Nat) : Int)))) hb3 h
    try simp only [go_sem]
    refine seq_go ?_
    try simp only [go_sem]
    have hj := posF_to rfl rfl (ih3 a0 a1 0 _ h)
    refine loop_to hj (.one ⟨_,.done _,[],[],?_⟩)
    clear hj
    try simp only [go_sem]
  ·intro a0 a1 p2_0 r h
   rw [s_l06Refs_l3] at h
   refine posF_of rfl rfl ?_
   try simp only [go_sem]
   refine loop_i ?_
   try simp only [go_sem]
   refine cond_i (fun hb5 => ?_) (fun hb5 => ?_)
   ·replace h := ifT (c := (decide (p2_0 < ((List.length a0.kids : Nat) : Int)))) hb5 h
    try simp only [go_sem]
    refine seq_go ?_
    try simp only [go_sem]
    replace h := bindE h
    obtain ⟨v12005,hv12005,h⟩ := h
    refine idx_m hv12005 (Core.ds_len _) ?_
    try simp only [go_sem]
    replace h := bindE h
    obtain ⟨v12007,hv12007,h⟩ := h
    refine call_i (ih0 _ _ _ hv12007) ?_
    try simp only [go_sem]
    refine seq_go ?_
    try simp only [go_sem]
    refine cond_i (fun hb6 => ?_) (fun hb6 => ?_)
    ·replace h := ifT (c := (!v12007)) hb6 h
     try simp only [go_sem]
     cases h
     simp only [go_sem]
    ·replace h := ifF (c := (!v12007)) hb6 h
     try simp only [go_sem]
     refine seq_go ?_
     try simp only [go_sem]
     have hj := posF_to rfl rfl (ih3 a0 a1 (IntKind.i64.wrap (p2_0 + 1)) _ h)
     refine lp_to hj (.one ⟨_,.done _,[],[],?_⟩)
     clear hj
     try simp only [go_sem]
   ·replace h := ifF (c := (decide (p2_0 < ((List.length a0.kids : Nat) : Int)))) hb5 h
    try simp only [go_sem]
    refine seq_go ?_
    try simp only [go_sem]
    cases h
    simp only [go_sem]
theorem s_l06Refs_ok (n : Nat) : (∀ (a0 : Core) (a1 : Int) (r : Bool),s_l06Refs n a0 a1 = some r → AC Tryz.prog 144 [.rop (Core.avs a0) 0,.int .i64 a1] (.bool r)) := (s_l06Refs_all n).1
theorem s_l06Book_l3_all (n : Nat) : (∀ (a0 : Book) (p0_0 : Int) (r : Bool),s_l06Book_l3 n a0 p0_0 = some r → posF Tryz.prog Tryz.f141 [1,1,0,1,0] (.bool r) ⟨[(0,.rop [.ro (List.map Core.ds a0.defs)] 0),(3,.int .i64 p0_0)],[],[]⟩) ∧
    (∀ (a0 : Book) (p0_0 : Int) (p1_0 : Bool) (r : Bool),s_l06Book_j4 n a0 p0_0 p1_0 = some r → posF Tryz.prog Tryz.f141 [1,1,0,1,0,0,1,0,0,1] (.bool r) ⟨[(0,.rop [.ro (List.map Core.ds a0.defs)] 0),(3,.int .i64 p0_0),(42,.bool p1_0)],[],[]⟩) := by
 induction n with
 | zero => exact ⟨(fun _ _ _ h => by rw [s_l06Book_l3] at h; cases h),(fun _ _ _ _ h => by rw [s_l06Book_j4] at h; cases h)⟩
 | succ n ih =>
  obtain ⟨ih0,ih1⟩ := ih
  refine ⟨?_,?_⟩
  ·intro a0 p0_0 r h
   rw [s_l06Book_l3] at h
   refine posF_of rfl rfl ?_
   try simp only [go_sem]
   refine loop_i ?_
   try simp only [go_sem]
   refine cond_i (fun hb2 => ?_) (fun hb2 => ?_)
   ·replace h := ifT (c := (decide (p0_0 < ((List.length a0.defs : Nat) : Int)))) hb2 h
    try simp only [go_sem]
    refine seq_go ?_
    try simp only [go_sem]
    refine draw_i [] .fin (by kernel_rfl) ?_
    try simp only [go_sem]
    replace h := bindE h
    obtain ⟨v7005,hv7005,h⟩ := h
    refine idx_m hv7005 (Core.ds_len _) ?_
    try simp only [go_sem]
    replace h := bindE h
    obtain ⟨v7006,hv7006,h⟩ := h
    refine call_i (s_l06Closed_ok _ _ hv7006) ?_
    try simp only [go_sem]
    refine cond_i (fun hb3 => ?_) (fun hb3 => ?_)
    ·replace h := ifT (c := (!v7006)) hb3 h
     try simp only [go_sem]
     have hj := posF_to rfl rfl (ih1 a0 p0_0 true _ h)
     refine seq_to hj (.one ⟨_,.done _,[],[],?_⟩)
     clear hj
     try simp only [go_sem]
    ·replace h := ifF (c := (!v7006)) hb3 h
     try simp only [go_sem]
     replace h := bindE h
     obtain ⟨v7014,hv7014,h⟩ := h
     refine idx_m hv7014 (Core.ds_len _) ?_
     try simp only [go_sem]
     replace h := bindE h
     obtain ⟨v7020,hv7020,h⟩ := h
     refine call_i (s_l06Refs_ok fuel _ _ _ hv7020) ?_
     try simp only [go_sem]
     have hj := posF_to rfl rfl (ih1 a0 p0_0 (!v7020) _ h)
     refine seq_to hj (.one ⟨_,.done _,[],[],?_⟩)
     clear hj
     try simp only [go_sem]
   ·replace h := ifF (c := (decide (p0_0 < ((List.length a0.defs : Nat) : Int)))) hb2 h
    try simp only [go_sem]
    refine seq_go ?_
    try simp only [go_sem]
    cases h
    simp only [go_sem]
  ·intro a0 p0_0 p1_0 r h
   rw [s_l06Book_j4] at h
   refine posF_of rfl rfl ?_
   try simp only [go_sem]
   refine cond_i (fun hb4 => ?_) (fun hb4 => ?_)
   ·replace h := ifT (c := p1_0) hb4 h
    try simp only [go_sem]
    cases h
    simp only [go_sem]
   ·replace h := ifF (c := p1_0) hb4 h
    try simp only [go_sem]
    refine seq_go ?_
    try simp only [go_sem]
    have hj := posF_to rfl rfl (ih0 a0 (IntKind.i64.wrap (p0_0 + 1)) _ h)
    refine lp_to hj (.one ⟨_,.done _,[],[],?_⟩)
    clear hj
    try simp only [go_sem]
theorem s_l06Book_l3_ok (n : Nat) : (∀ (a0 : Book) (p0_0 : Int) (r : Bool),s_l06Book_l3 n a0 p0_0 = some r → posF Tryz.prog Tryz.f141 [1,1,0,1,0] (.bool r) ⟨[(0,.rop [.ro (List.map Core.ds a0.defs)] 0),(3,.int .i64 p0_0)],[],[]⟩) := (s_l06Book_l3_all n).1
theorem s_l06Book_ok (a0 : Book) (r : Bool) (h : s_l06Book a0 = some r) : AC Tryz.prog 141 [.rop (Book.avs a0) 0] (.bool r) := by
 unfold s_l06Book at h
 refine ac_fn mixed Tryz.func141 rfl rfl rfl (by kernel_rfl) (by kernel_rfl) ?_
 try simp only [go_sem]
 replace h := bindE h
 obtain ⟨v2005,hv2005,h⟩ := h
 refine call_i (s_l00In_ok _ _ _ _ hv2005) ?_
 try simp only [go_sem]
 refine seq_go ?_
 try simp only [go_sem]
 refine cond_i (fun hb1 => ?_) (fun hb1 => ?_)
 ·replace h := ifT (c := (!v2005)) hb1 h
  try simp only [go_sem]
  cases h
  simp only [go_sem]
 ·replace h := ifF (c := (!v2005)) hb1 h
  try simp only [go_sem]
  refine seq_go ?_
  try simp only [go_sem]
  have hj := posF_to rfl rfl (s_l06Book_l3_ok fuel a0 0 _ h)
  refine loop_to hj (.one ⟨_,.done _,[],[],?_⟩)
  clear hj
  try simp only [go_sem]
theorem l_szBook_ok (a0 : Book) (a1 : Int) (r : Int) (h : l_szBook a0 a1 = some r) : AC Tryz.prog 11 [.agg (Book.avs a0),.int .i64 a1] (.int .i64 r) := by
 unfold l_szBook at h
 refine ac_fn mixed Tryz.func11 rfl rfl rfl (by kernel_rfl) (by kernel_rfl) ?_
 try simp only [go_sem]
 replace h := bindE h
 obtain ⟨v2003,hv2003,h⟩ := h
 refine call_i (l_szCoreS_ok fuel _ _ _ hv2003) ?_
 try simp only [go_sem]
 refine seq_go ?_
 try simp only [go_sem]
 refine cond_i (fun hb1 => ?_) (fun hb1 => ?_)
 ·replace h := ifT (c := (decide (v2003 < 0))) hb1 h
  try simp only [go_sem]
  cases h
  simp only [go_sem]
 ·replace h := ifF (c := (decide (v2003 < 0))) hb1 h
  try simp only [go_sem]
  refine seq_go ?_
  try simp only [go_sem]
  cases h
  simp only [go_sem]
theorem l_toBook_ok (a0 : Book) (r : Book) (h : l_toBook a0 = some r) : AC Tryz.prog 14 [.agg (Book.avs a0)] (.agg (Book.rv r)) := by
 unfold l_toBook at h
 refine ac_fn mixed Tryz.func14 rfl rfl rfl (by kernel_rfl) (by kernel_rfl) ?_
 try simp only [go_sem]
 replace h := bindE h
 obtain ⟨v3002,hv3002,h⟩ := h
 refine call_i (l_toCoreS_ok fuel _ _ hv3002) ?_
 try simp only [go_sem]
 refine seq_go ?_
 try simp only [go_sem]
 cases h
 simp only [go_sem]
theorem l_eqBook_ok (a0 : Book) (a1 : Book) (r : Bool) (h : l_eqBook a0 a1 = some r) : AC Tryz.prog 18 [.agg (Book.avs a0),.agg (Book.avs a1)] (.bool r) := by
 unfold l_eqBook at h
 refine ac_fn mixed Tryz.func18 rfl rfl rfl (by kernel_rfl) (by kernel_rfl) ?_
 try simp only [go_sem]
 replace h := bindE h
 obtain ⟨v2004,hv2004,h⟩ := h
 refine call_i (l_eqCoreS_ok fuel _ _ _ hv2004) ?_
 try simp only [go_sem]
 refine seq_go ?_
 try simp only [go_sem]
 refine cond_i (fun hb1 => ?_) (fun hb1 => ?_)
 ·replace h := ifT (c := (!v2004)) hb1 h
  try simp only [go_sem]
  cases h
  simp only [go_sem]
 ·replace h := ifF (c := (!v2004)) hb1 h
  try simp only [go_sem]
  refine seq_go ?_
  try simp only [go_sem]
  cases h
  simp only [go_sem]
end Go.Proofs.YtjdinbgcgbigoaaGreat.Ab
