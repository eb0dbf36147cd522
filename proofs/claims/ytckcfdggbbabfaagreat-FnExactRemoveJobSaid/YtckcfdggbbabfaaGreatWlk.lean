/-
 The functions do what their models say. Printed by wip/ab/gen.py.
-/
import Derived.Test.YtckcfdggbbabfaaGreatMod
import Derived.Test.YtckcfdggbbabfaaGreatTi2
namespace Go.Proofs.YtckcfdggbbabfaaGreat.Ab
set_option linter.unusedVariables false
set_option linter.unusedSimpArgs false
set_option maxRecDepth 20000
set_option maxHeartbeats 4000000
open Go.RowKit
theorem l_szInt64S_ok (a0 : List Int) (a1 : Int) (r : Int) (h : l_szInt64S a0 a1 = some r) : AC Tryz.prog 174 [.ro (List.map i64D a0), .int .i64 a1] (.int .i64 r) := by
 unfold l_szInt64S at h
 refine ac_fn mixed Tryz.func174 rfl rfl rfl (by kernel_rfl) (by kernel_rfl) ?_
 try simp only [go_sem]
 refine cond_i (fun hb1 => ?_) (fun hb1 => ?_)
 ·replace h := ifT (c := (decide ((IntKind.i64.wrap (a1 - ((List.length a0 : Nat) : Int))) < 0))) hb1 h
  try simp only [go_sem]
  cases h
  simp only [go_sem]
 ·replace h := ifF (c := (decide ((IntKind.i64.wrap (a1 - ((List.length a0 : Nat) : Int))) < 0))) hb1 h
  try simp only [go_sem]
  refine seq_go ?_
  try simp only [go_sem]
  cases h
  simp only [go_sem]
theorem l_toInt64S_l2_ok (n : Nat) : (∀ (a0 : List Int) (p1_0 : List Int) (p1_1 : Int) (r : (List Int)), l_toInt64S_l2 n a0 p1_0 p1_1 = some r → posF Tryz.prog Tryz.f19 [1, 1, 0, 1, 0] (.ow (some 1) (List.map i64D r)) ⟨[(0, .ro (List.map i64D a0)), (3, .own 1000001000), (4, .int .i64 p1_1)], [(1000001000, some ⟨List.map i64D p1_0, some 1, 0, false⟩)], []⟩) := by
 induction n with
 | zero => exact ((fun _ _ _ _ h => by rw [l_toInt64S_l2] at h; cases h))
 | succ n ih =>
  have ih0 := ih
  ·intro a0 p1_0 p1_1 r h
   rw [l_toInt64S_l2] at h
   refine posF_of rfl rfl ?_
   try simp only [go_sem]
   refine loop_i ?_
   try simp only [go_sem]
   refine cond_i (fun hb1 => ?_) (fun hb1 => ?_)
   ·replace h := ifT (c := (decide (p1_1 < ((List.length a0 : Nat) : Int)))) hb1 h
    try simp only [go_sem]
    refine seq_go ?_
    try simp only [go_sem]
    replace h := bindE h
    obtain ⟨v6004, hv6004, h⟩ := h
    refine idx_m hv6004 rfl ?_
    try simp only [go_sem]
    replace h := bindE h
    obtain ⟨v6006, hv6006, h⟩ := h
    refine idx_m hv6006 rfl ?_
    try simp only [go_sem]
    replace h := bindE h
    obtain ⟨v6007_12, hv6007_12, h⟩ := h
    refine opt_i (row_m hv6006) ?_
    try simp only [go_sem]
    refine row_i (List.map i64D v6007_12) (by rw [← set1_some hv6007_12]; simp only [List.map_set, go_sem, slD]) ?_
    try simp only [go_sem]
    refine seq_go ?_
    try simp only [go_sem]
    have hj := posF_to rfl rfl (ih0 a0 v6007_12 (IntKind.i64.wrap (p1_1 + 1)) _ h)
    refine lp_to hj (.one ⟨_, .done _, [(1000001000, 1000001000)], [], ?_⟩)
    clear hj
    try simp only [go_sem]
   ·replace h := ifF (c := (decide (p1_1 < ((List.length a0 : Nat) : Int)))) hb1 h
    try simp only [go_sem]
    refine seq_go ?_
    try simp only [go_sem]
    cases h
    simp only [go_sem]
theorem l_toInt64S_ok (a0 : List Int) (r : (List Int)) (h : l_toInt64S a0 = some r) : AC Tryz.prog 19 [.ro (List.map i64D a0)] (.ow (some 1) (List.map i64D r)) := by
 unfold l_toInt64S at h
 refine ac_fn mixed Tryz.func19 rfl rfl rfl (by kernel_rfl) (by kernel_rfl) ?_
 try simp only [go_sem]
 replace h := bindE h
 obtain ⟨v2002, hv2002, h⟩ := h
 have hq_ := rep_some hv2002
 obtain ⟨hv2002a, hv2002b, hv2002c⟩ := hq_
 refine and_i (by refine ⟨?_, ?_, ?_⟩ <;> omega) ?_
 try simp only [go_sem]
 refine row_i (List.map i64D v2002) (by rw [← hv2002c]; simp only [List.map_replicate, go_sem, slD]) ?_
 try simp only [go_sem]
 refine seq_go ?_
 try simp only [go_sem]
 have hj := posF_to rfl rfl (l_toInt64S_l2_ok fuel a0 v2002 0 _ h)
 refine loop_to hj (.one ⟨_, .done _, [(1000001000, 32032)], [], ?_⟩)
 clear hj
 try simp only [go_sem]
theorem l_eqInt64S_l1_ok (n : Nat) : (∀ (a0 : List Int) (a1 : List Int) (p0_0 : Int) (r : Bool), l_eqInt64S_l1 n a0 a1 p0_0 = some r → posF Tryz.prog Tryz.f24 [1, 1, 0, 1, 0] (.bool r) ⟨[(0, .ro (List.map i64D a0)), (1, .ro (List.map i64D a1)), (5, .int .i64 p0_0)], [], []⟩) := by
 induction n with
 | zero => exact ((fun _ _ _ _ h => by rw [l_eqInt64S_l1] at h; cases h))
 | succ n ih =>
  have ih0 := ih
  ·intro a0 a1 p0_0 r h
   rw [l_eqInt64S_l1] at h
   refine posF_of rfl rfl ?_
   try simp only [go_sem]
   refine loop_i ?_
   try simp only [go_sem]
   refine cond_i (fun hb2 => ?_) (fun hb2 => ?_)
   ·replace h := ifT (c := (decide (p0_0 < ((List.length a0 : Nat) : Int)))) hb2 h
    try simp only [go_sem]
    refine seq_go ?_
    try simp only [go_sem]
    refine draw_i [] .fin (by kernel_rfl) ?_
    try simp only [go_sem]
    replace h := bindE h
    obtain ⟨v7002, hv7002, h⟩ := h
    refine idx_m hv7002 rfl ?_
    try simp only [go_sem]
    replace h := bindE h
    obtain ⟨v7006, hv7006, h⟩ := h
    refine idx_m hv7006 rfl ?_
    try simp only [go_sem]
    refine seq_go ?_
    try simp only [go_sem]
    refine cond_i (fun hb3 => ?_) (fun hb3 => ?_)
    ·replace h := ifT (c := (!decide (v7002 = v7006))) hb3 h
     try simp only [go_sem]
     cases h
     simp only [go_sem]
    ·replace h := ifF (c := (!decide (v7002 = v7006))) hb3 h
     try simp only [go_sem]
     refine seq_go ?_
     try simp only [go_sem]
     have hj := posF_to rfl rfl (ih0 a0 a1 (IntKind.i64.wrap (p0_0 + 1)) _ h)
     refine lp_to hj (.one ⟨_, .done _, [], [], ?_⟩)
     clear hj
     try simp only [go_sem]
   ·replace h := ifF (c := (decide (p0_0 < ((List.length a0 : Nat) : Int)))) hb2 h
    try simp only [go_sem]
    refine seq_go ?_
    try simp only [go_sem]
    cases h
    simp only [go_sem]
theorem l_eqInt64S_ok (a0 : List Int) (a1 : List Int) (r : Bool) (h : l_eqInt64S a0 a1 = some r) : AC Tryz.prog 24 [.ro (List.map i64D a0), .ro (List.map i64D a1)] (.bool r) := by
 unfold l_eqInt64S at h
 refine ac_fn mixed Tryz.func24 rfl rfl rfl (by kernel_rfl) (by kernel_rfl) ?_
 try simp only [go_sem]
 refine cond_i (fun hb1 => ?_) (fun hb1 => ?_)
 ·replace h := ifT (c := (!decide (((List.length a0 : Nat) : Int) = ((List.length a1 : Nat) : Int)))) hb1 h
  try simp only [go_sem]
  cases h
  simp only [go_sem]
 ·replace h := ifF (c := (!decide (((List.length a0 : Nat) : Int) = ((List.length a1 : Nat) : Int)))) hb1 h
  try simp only [go_sem]
  refine seq_go ?_
  try simp only [go_sem]
  have hj := posF_to rfl rfl (l_eqInt64S_l1_ok fuel a0 a1 0 _ h)
  refine loop_to hj (.one ⟨_, .done _, [], [], ?_⟩)
  clear hj
  try simp only [go_sem]
theorem l_markInt64S_l1_ok (n : Nat) : (∀ (p0_0 : List Int) (p0_1 : Int) (p0_2 : Int) (z1 : Option Nat) (r : Int × (List Int)), l_markInt64S_l1 n p0_0 p0_1 p0_2 = some r → posG Tryz.prog Tryz.f28 [1, 0, 1, 0] (.int .i64 r.1) [(1, ⟨List.map i64D r.2, z1, 0, false⟩)] [] ⟨[(0, .own 1), (1, .int .i64 p0_1), (5, .int .i64 p0_2)], [(1, some ⟨List.map i64D p0_0, z1, 0, false⟩)], []⟩) := by
 induction n with
 | zero => exact ((fun _ _ _ _ _ h => by rw [l_markInt64S_l1] at h; cases h))
 | succ n ih =>
  have ih0 := ih
  ·intro p0_0 p0_1 p0_2 z1 r h
   rw [l_markInt64S_l1] at h
   refine posG_of rfl rfl ?_
   try simp only [go_sem]
   refine loop_i ?_
   try simp only [go_sem]
   refine cond_i (fun hb1 => ?_) (fun hb1 => ?_)
   ·replace h := ifT (c := (decide (p0_2 < ((List.length p0_0 : Nat) : Int)))) hb1 h
    try simp only [go_sem]
    refine seq_go ?_
    try simp only [go_sem]
    replace h := bindE h
    obtain ⟨v5003, hv5003, h⟩ := h
    refine idx_m hv5003 rfl ?_
    try simp only [go_sem]
    replace h := bindE h
    obtain ⟨v5004_8, hv5004_8, h⟩ := h
    refine opt_i (row_m hv5003) ?_
    try simp only [go_sem]
    refine row_i (List.map i64D v5004_8) (by rw [← set1_some hv5004_8]; simp only [List.map_set, go_sem, slD]) ?_
    try simp only [go_sem]
    refine seq_go ?_
    try simp only [go_sem]
    have hj := posG_to rfl rfl (ih0 v5004_8 (IntKind.i64.wrap (p0_1 + 1)) (IntKind.i64.wrap (p0_2 + 1)) z1 _ h)
    refine lp_to hj (.one ⟨_, .done _, [(1, 1)], [], ?_⟩)
    clear hj
    try simp only [go_sem]
   ·replace h := ifF (c := (decide (p0_2 < ((List.length p0_0 : Nat) : Int)))) hb1 h
    try simp only [go_sem]
    refine seq_go ?_
    try simp only [go_sem]
    cases h
    refine ret_i (.done _) [(1, 1)] [] ?_
    simp only [go_sem]
theorem l_markInt64S_ok (a0 : List Int) (a1 : Int) (z1 : Option Nat) (r : Int × (List Int)) (h : l_markInt64S a0 a1 = some r) : AG Tryz.prog 28 [.own 1, .int .i64 a1] [(1, ⟨List.map i64D a0, z1, 0, false⟩)] [] (.int .i64 r.1) [(1, ⟨List.map i64D r.2, z1, 0, false⟩)] [] := by
 unfold l_markInt64S at h
 refine ag_fn mixed Tryz.func28 rfl rfl rfl (by kernel_rfl) (by kernel_rfl) ?_
 try simp only [go_sem]
 have hj := posG_to rfl rfl (l_markInt64S_l1_ok fuel a0 a1 0 z1 _ h)
 refine loop_to hj (.one ⟨_, .done _, [(1, 1)], [], ?_⟩)
 clear hj
 try simp only [go_sem]
theorem l_heldInt64S_l1_ok (n : Nat) : (∀ (a0 : List Int) (p0_0 : Int) (p0_1 : Int) (r : Int), l_heldInt64S_l1 n a0 p0_0 p0_1 = some r → posF Tryz.prog Tryz.f41 [1, 0, 1, 0] (.int .i64 r) ⟨[(0, .ro (List.map i64D a0)), (1, .int .i64 p0_0), (5, .int .i64 p0_1)], [], []⟩) := by
 induction n with
 | zero => exact ((fun _ _ _ _ h => by rw [l_heldInt64S_l1] at h; cases h))
 | succ n ih =>
  have ih0 := ih
  ·intro a0 p0_0 p0_1 r h
   rw [l_heldInt64S_l1] at h
   refine posF_of rfl rfl ?_
   try simp only [go_sem]
   refine loop_i ?_
   try simp only [go_sem]
   refine cond_i (fun hb1 => ?_) (fun hb1 => ?_)
   ·replace h := ifT (c := (decide (p0_1 < ((List.length a0 : Nat) : Int)))) hb1 h
    try simp only [go_sem]
    refine seq_go ?_
    try simp only [go_sem]
    replace h := bindE h
    obtain ⟨v5002, hv5002, h⟩ := h
    refine idx_m hv5002 rfl ?_
    try simp only [go_sem]
    refine cond_i (fun hb2 => ?_) (fun hb2 => ?_)
    ·replace h := ifT (c := (!decide (v5002 = p0_0))) hb2 h
     try simp only [go_sem]
     cases h
     simp only [go_sem]
    ·replace h := ifF (c := (!decide (v5002 = p0_0))) hb2 h
     try simp only [go_sem]
     refine seq_go ?_
     try simp only [go_sem]
     refine seq_go ?_
     try simp only [go_sem]
     have hj := posF_to rfl rfl (ih0 a0 (IntKind.i64.wrap (p0_0 + 1)) (IntKind.i64.wrap (p0_1 + 1)) _ h)
     refine lp_to hj (.one ⟨_, .done _, [], [], ?_⟩)
     clear hj
     try simp only [go_sem]
   ·replace h := ifF (c := (decide (p0_1 < ((List.length a0 : Nat) : Int)))) hb1 h
    try simp only [go_sem]
    refine seq_go ?_
    try simp only [go_sem]
    cases h
    simp only [go_sem]
theorem l_heldInt64S_ok (a0 : List Int) (a1 : Int) (r : Int) (h : l_heldInt64S a0 a1 = some r) : AC Tryz.prog 41 [.ro (List.map i64D a0), .int .i64 a1] (.int .i64 r) := by
 unfold l_heldInt64S at h
 refine ac_fn mixed Tryz.func41 rfl rfl rfl (by kernel_rfl) (by kernel_rfl) ?_
 try simp only [go_sem]
 have hj := posF_to rfl rfl (l_heldInt64S_l1_ok fuel a0 a1 0 _ h)
 refine loop_to hj (.one ⟨_, .done _, [], [], ?_⟩)
 clear hj
 try simp only [go_sem]
end Go.Proofs.YtckcfdggbbabfaaGreat.Ab
