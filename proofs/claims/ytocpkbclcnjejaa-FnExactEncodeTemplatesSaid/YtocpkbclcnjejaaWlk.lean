/-
  The functions do what their models say. Printed by wip/ab/gen.py.
-/
import Derived.Test.YtocpkbclcnjejaaMod
import Derived.Test.YtocpkbclcnjejaaTi2
namespace Go.Proofs.Ytocpkbclcnjejaa.Ab
set_option linter.unusedVariables false
set_option linter.unusedSimpArgs false
set_option maxRecDepth 20000
set_option maxHeartbeats 4000000
open Go.RowKit

theorem l_szInt64S_ok (a0 : List Int) (a1 : Int) (r : Int) (h : l_szInt64S a0 a1 = some r) : AC Try.prog 74 [.ro (List.map i64D a0), .int .i64 a1] (.int .i64 r) := by
  unfold l_szInt64S at h
  refine ac_fn mixed Try.func74 rfl rfl rfl (by kernel_rfl) (by kernel_rfl) ?_
  try simp only [go_sem]
  refine cond_i (fun hb1 => ?_) (fun hb1 => ?_)
  · replace h := ifT (c := (decide ((IntKind.i64.wrap (a1 - ((List.length a0 : Nat) : Int))) < 0))) hb1 h
    try simp only [go_sem]
    replace h := Option.some.inj h
    obtain rfl := h
    simp only [go_sem]
  · replace h := ifF (c := (decide ((IntKind.i64.wrap (a1 - ((List.length a0 : Nat) : Int))) < 0))) hb1 h
    try simp only [go_sem]
    refine seq_go ?_
    try simp only [go_sem]
    replace h := Option.some.inj h
    obtain rfl := h
    simp only [go_sem]
theorem l_szCoreS_all (n : Nat) : (∀ (a0 : List Core) (a1 : Int) (r : Int), l_szCoreS n a0 a1 = some r → AC Try.prog 110 [.ro (List.map Core.ds a0), .int .i64 a1] (.int .i64 r)) ∧
    (∀ (a0 : List Core) (p0_0 : Int) (p0_1 : Int) (r : Int), l_szCoreS_l1 n a0 p0_0 p0_1 = some r → posF Try.prog Try.f110 [1, 1, 1, 0, 1, 0] (.int .i64 r) ⟨[(0, .ro (List.map Core.ds a0)), (1, .int .i64 p0_0), (5, .int .i64 p0_1)], [], []⟩) ∧
    (∀ (a0 : Core) (a1 : Int) (r : Int), l_szCore n a0 a1 = some r → AC Try.prog 57 [.agg (Core.avs a0), .int .i64 a1] (.int .i64 r)) := by
  induction n with
  | zero => exact ⟨(fun _ _ _ h => by rw [l_szCoreS] at h; cases h), (fun _ _ _ _ h => by rw [l_szCoreS_l1] at h; cases h), (fun _ _ _ h => by rw [l_szCore] at h; cases h)⟩
  | succ n ih =>
    obtain ⟨ih0, ih1, ih2⟩ := ih
    refine ⟨?_, ?_, ?_⟩
    · intro a0 a1 r h
      rw [l_szCoreS] at h
      refine ac_fn mixed Try.func110 rfl rfl rfl (by kernel_rfl) (by kernel_rfl) ?_
      try simp only [go_sem]
      refine cond_i (fun hb1 => ?_) (fun hb1 => ?_)
      · replace h := ifT (c := (decide ((IntKind.i64.wrap (a1 - ((List.length a0 : Nat) : Int))) < 0))) hb1 h
        try simp only [go_sem]
        replace h := Option.some.inj h
        obtain rfl := h
        simp only [go_sem]
      · replace h := ifF (c := (decide ((IntKind.i64.wrap (a1 - ((List.length a0 : Nat) : Int))) < 0))) hb1 h
        try simp only [go_sem]
        refine seq_go ?_
        try simp only [go_sem]
        have hj := posF_to rfl rfl (ih1 a0 (IntKind.i64.wrap (a1 - ((List.length a0 : Nat) : Int))) 0 _ h)
        refine loop_to hj (.one ⟨_, .done _, [], [], ?_⟩)
        clear hj
        try simp only [go_sem]
    · intro a0 p0_0 p0_1 r h
      rw [l_szCoreS_l1] at h
      refine posF_of rfl rfl ?_
      try simp only [go_sem]
      refine loop_i ?_
      try simp only [go_sem]
      refine cond_i (fun hb2 => ?_) (fun hb2 => ?_)
      · replace h := ifT (c := (decide (p0_1 < ((List.length a0 : Nat) : Int)))) hb2 h
        try simp only [go_sem]
        refine seq_go ?_
        try simp only [go_sem]
        replace h := bindE h
        obtain ⟨v8002, hv8002, h⟩ := h
        refine idx_m hv8002 (Core.ds_len _) ?_
        try simp only [go_sem]
        replace h := bindE h
        obtain ⟨v8005, hv8005, h⟩ := h
        refine call_i (ih2 _ _ _ hv8005) ?_
        try simp only [go_sem]
        refine cond_i (fun hb3 => ?_) (fun hb3 => ?_)
        · replace h := ifT (c := (decide (v8005 < 0))) hb3 h
          try simp only [go_sem]
          replace h := Option.some.inj h
          obtain rfl := h
          simp only [go_sem]
        · replace h := ifF (c := (decide (v8005 < 0))) hb3 h
          try simp only [go_sem]
          refine seq_go ?_
          try simp only [go_sem]
          have hj := posF_to rfl rfl (ih1 a0 v8005 (IntKind.i64.wrap (p0_1 + 1)) _ h)
          refine lp_to hj (.one ⟨_, .done _, [], [], ?_⟩)
          clear hj
          try simp only [go_sem]
      · replace h := ifF (c := (decide (p0_1 < ((List.length a0 : Nat) : Int)))) hb2 h
        try simp only [go_sem]
        refine seq_go ?_
        try simp only [go_sem]
        replace h := Option.some.inj h
        obtain rfl := h
        simp only [go_sem]
    · intro a0 a1 r h
      rw [l_szCore] at h
      refine ac_fn mixed Try.func57 rfl rfl rfl (by kernel_rfl) (by kernel_rfl) ?_
      try simp only [go_sem]
      replace h := bindE h
      obtain ⟨v2003, hv2003, h⟩ := h
      refine call_i (l_szInt64S_ok _ _ _ hv2003) ?_
      try simp only [go_sem]
      refine cond_i (fun hb1 => ?_) (fun hb1 => ?_)
      · replace h := ifT (c := (decide (v2003 < 0))) hb1 h
        try simp only [go_sem]
        replace h := Option.some.inj h
        obtain rfl := h
        simp only [go_sem]
      · replace h := ifF (c := (decide (v2003 < 0))) hb1 h
        try simp only [go_sem]
        refine seq_go ?_
        try simp only [go_sem]
        replace h := bindE h
        obtain ⟨v5003, hv5003, h⟩ := h
        refine call_i (ih0 _ _ _ hv5003) ?_
        try simp only [go_sem]
        refine cond_i (fun hb2 => ?_) (fun hb2 => ?_)
        · replace h := ifT (c := (decide (v5003 < 0))) hb2 h
          try simp only [go_sem]
          replace h := Option.some.inj h
          obtain rfl := h
          simp only [go_sem]
        · replace h := ifF (c := (decide (v5003 < 0))) hb2 h
          try simp only [go_sem]
          refine seq_go ?_
          try simp only [go_sem]
          replace h := Option.some.inj h
          obtain rfl := h
          simp only [go_sem]
theorem l_szCoreS_ok (n : Nat) : (∀ (a0 : List Core) (a1 : Int) (r : Int), l_szCoreS n a0 a1 = some r → AC Try.prog 110 [.ro (List.map Core.ds a0), .int .i64 a1] (.int .i64 r)) := (l_szCoreS_all n).1
theorem l_szCoreS_l1_ok (n : Nat) : (∀ (a0 : List Core) (p0_0 : Int) (p0_1 : Int) (r : Int), l_szCoreS_l1 n a0 p0_0 p0_1 = some r → posF Try.prog Try.f110 [1, 1, 1, 0, 1, 0] (.int .i64 r) ⟨[(0, .ro (List.map Core.ds a0)), (1, .int .i64 p0_0), (5, .int .i64 p0_1)], [], []⟩) := (l_szCoreS_all n).2.1
theorem l_szCore_ok (n : Nat) : (∀ (a0 : Core) (a1 : Int) (r : Int), l_szCore n a0 a1 = some r → AC Try.prog 57 [.agg (Core.avs a0), .int .i64 a1] (.int .i64 r)) := (l_szCoreS_all n).2.2

theorem l_toInt64S_l2_all (n : Nat) : (∀ (a0 : List Int) (p1_0 : List Int) (p1_1 : Int) (r : (List Int)), l_toInt64S_l2 n a0 p1_0 p1_1 = some r → posF Try.prog Try.f79 [1, 1, 0, 1, 0] (.ow (some 1) (List.map i64D r)) ⟨[(0, .ro (List.map i64D a0)), (3, .own 1000001000), (4, .int .i64 p1_1)], [(1000001000, some ⟨List.map i64D p1_0, some 1, 0⟩)], []⟩) := by
  induction n with
  | zero => exact ((fun _ _ _ _ h => by rw [l_toInt64S_l2] at h; cases h))
  | succ n ih =>
    have ih0 := ih
    · intro a0 p1_0 p1_1 r h
      rw [l_toInt64S_l2] at h
      refine posF_of rfl rfl ?_
      try simp only [go_sem]
      refine loop_i ?_
      try simp only [go_sem]
      refine cond_i (fun hb1 => ?_) (fun hb1 => ?_)
      · replace h := ifT (c := (decide (p1_1 < ((List.length a0 : Nat) : Int)))) hb1 h
        try simp only [go_sem]
        refine seq_go ?_
        try simp only [go_sem]
        replace h := bindE h
        obtain ⟨v6004, hv6004, h⟩ := h
        refine idx_m hv6004 rfl ?_
        try simp only [go_sem]
        replace h := bindE h
        obtain ⟨v6006, hv6006, h⟩ := h
        refine idx_m hv6006 rfl ?_
        try simp only [go_sem]
        replace h := bindE h
        obtain ⟨v6007_12, hv6007_12, h⟩ := h
        refine opt_i (row_m hv6006) ?_
        try simp only [go_sem]
        refine row_i (List.map i64D v6007_12) (by rw [← set1_some hv6007_12]; simp only [List.map_set, go_sem, slD]) ?_
        try simp only [go_sem]
        refine seq_go ?_
        try simp only [go_sem]
        have hj := posF_to rfl rfl (ih0 a0 v6007_12 (IntKind.i64.wrap (p1_1 + 1)) _ h)
        refine lp_to hj (.one ⟨_, .done _, [(1000001000, 1000001000)], [], ?_⟩)
        clear hj
        try simp only [go_sem]
      · replace h := ifF (c := (decide (p1_1 < ((List.length a0 : Nat) : Int)))) hb1 h
        try simp only [go_sem]
        refine seq_go ?_
        try simp only [go_sem]
        replace h := Option.some.inj h
        obtain rfl := h
        simp only [go_sem]
theorem l_toInt64S_l2_ok (n : Nat) : (∀ (a0 : List Int) (p1_0 : List Int) (p1_1 : Int) (r : (List Int)), l_toInt64S_l2 n a0 p1_0 p1_1 = some r → posF Try.prog Try.f79 [1, 1, 0, 1, 0] (.ow (some 1) (List.map i64D r)) ⟨[(0, .ro (List.map i64D a0)), (3, .own 1000001000), (4, .int .i64 p1_1)], [(1000001000, some ⟨List.map i64D p1_0, some 1, 0⟩)], []⟩) := (l_toInt64S_l2_all n)

theorem l_toInt64S_ok (a0 : List Int) (r : (List Int)) (h : l_toInt64S a0 = some r) : AC Try.prog 79 [.ro (List.map i64D a0)] (.ow (some 1) (List.map i64D r)) := by
  unfold l_toInt64S at h
  refine ac_fn mixed Try.func79 rfl rfl rfl (by kernel_rfl) (by kernel_rfl) ?_
  try simp only [go_sem]
  replace h := bindE h
  obtain ⟨v2002, hv2002, h⟩ := h
  have hq_ := rep_some hv2002
  obtain ⟨hv2002a, hv2002b, hv2002c⟩ := hq_
  refine and_i (by refine ⟨?_, ?_, ?_⟩ <;> omega) ?_
  try simp only [go_sem]
  refine row_i (List.map i64D v2002) (by rw [← hv2002c]; simp only [List.map_replicate, go_sem, slD]) ?_
  try simp only [go_sem]
  have hj := posF_to rfl rfl (l_toInt64S_l2_ok fuel a0 v2002 0 _ h)
  refine loop_to hj (.one ⟨_, .done _, [(1000001000, 32032)], [], ?_⟩)
  clear hj
  try simp only [go_sem]
theorem l_toCoreS_all (n : Nat) : (∀ (a0 : List Core) (r : (List Core)), l_toCoreS n a0 = some r → AC Try.prog 119 [.ro (List.map Core.ds a0)] (.ow (some 4) (List.map Core.ds r))) ∧
    (∀ (a0 : List Core) (p1_0 : List Core) (p1_1 : Int) (r : (List Core)), l_toCoreS_l2 n a0 p1_0 p1_1 = some r → posF Try.prog Try.f119 [1, 1, 0, 1, 0] (.ow (some 4) (List.map Core.ds r)) ⟨[(0, .ro (List.map Core.ds a0)), (3, .own 1000001000), (4, .int .i64 p1_1)], [(1000001000, some ⟨List.map Core.ds p1_0, some 4, 0⟩)], []⟩) ∧
    (∀ (a0 : Core) (r : Core), l_toCore n a0 = some r → AC Try.prog 63 [.agg (Core.avs a0)] (.agg (Core.rv r))) := by
  induction n with
  | zero => exact ⟨(fun _ _ h => by rw [l_toCoreS] at h; cases h), (fun _ _ _ _ h => by rw [l_toCoreS_l2] at h; cases h), (fun _ _ h => by rw [l_toCore] at h; cases h)⟩
  | succ n ih =>
    obtain ⟨ih0, ih1, ih2⟩ := ih
    refine ⟨?_, ?_, ?_⟩
    · intro a0 r h
      rw [l_toCoreS] at h
      refine ac_fn mixed Try.func119 rfl rfl rfl (by kernel_rfl) (by kernel_rfl) ?_
      try simp only [go_sem]
      replace h := bindE h
      obtain ⟨v2002, hv2002, h⟩ := h
      have hq_ := rep_some hv2002
      obtain ⟨hv2002a, hv2002b, hv2002c⟩ := hq_
      refine and_i (by refine ⟨?_, ?_, ?_⟩ <;> omega) ?_
      try simp only [go_sem]
      refine row_i (List.map Core.ds v2002) (by rw [← hv2002c]; simp only [List.map_replicate, go_sem, Core.ds_eq]) ?_
      try simp only [go_sem]
      have hj := posF_to rfl rfl (ih1 a0 v2002 0 _ h)
      refine loop_to hj (.one ⟨_, .done _, [(1000001000, 32032)], [], ?_⟩)
      clear hj
      try simp only [go_sem]
    · intro a0 p1_0 p1_1 r h
      rw [l_toCoreS_l2] at h
      refine posF_of rfl rfl ?_
      try simp only [go_sem]
      refine loop_i ?_
      try simp only [go_sem]
      refine cond_i (fun hb1 => ?_) (fun hb1 => ?_)
      · replace h := ifT (c := (decide (p1_1 < ((List.length a0 : Nat) : Int)))) hb1 h
        try simp only [go_sem]
        refine seq_go ?_
        try simp only [go_sem]
        replace h := bindE h
        obtain ⟨v6004, hv6004, h⟩ := h
        refine idx_m hv6004 (Core.ds_len _) ?_
        try simp only [go_sem]
        replace h := bindE h
        obtain ⟨v6006, hv6006, h⟩ := h
        refine call_i (ih2 _ _ hv6006) ?_
        try simp only [go_sem]
        replace h := bindE h
        obtain ⟨v6007, hv6007, h⟩ := h
        refine idx_m hv6007 (Core.ds_len _) ?_
        try simp only [go_sem]
        replace h := bindE h
        obtain ⟨v6008_12, hv6008_12, h⟩ := h
        refine opt_i (row_m hv6007) ?_
        try simp only [go_sem]
        refine row_i (List.map Core.ds v6008_12) (by rw [← set1_some hv6008_12]; simp only [List.map_set, go_sem, Core.ds_eq]) ?_
        try simp only [go_sem]
        refine seq_go ?_
        try simp only [go_sem]
        have hj := posF_to rfl rfl (ih1 a0 v6008_12 (IntKind.i64.wrap (p1_1 + 1)) _ h)
        refine lp_to hj (.one ⟨_, .done _, [(1000001000, 1000001000)], [], ?_⟩)
        clear hj
        try simp only [go_sem]
      · replace h := ifF (c := (decide (p1_1 < ((List.length a0 : Nat) : Int)))) hb1 h
        try simp only [go_sem]
        refine seq_go ?_
        try simp only [go_sem]
        replace h := Option.some.inj h
        obtain rfl := h
        simp only [go_sem]
    · intro a0 r h
      rw [l_toCore] at h
      refine ac_fn mixed Try.func63 rfl rfl rfl (by kernel_rfl) (by kernel_rfl) ?_
      try simp only [go_sem]
      replace h := bindE h
      obtain ⟨v5002, hv5002, h⟩ := h
      refine call_i (l_toInt64S_ok _ _ hv5002) ?_
      try simp only [go_sem]
      replace h := bindE h
      obtain ⟨v6002, hv6002, h⟩ := h
      refine call_i (ih0 _ _ hv6002) ?_
      try simp only [go_sem]
      replace h := Option.some.inj h
      obtain rfl := h
      simp only [go_sem]
theorem l_toCoreS_ok (n : Nat) : (∀ (a0 : List Core) (r : (List Core)), l_toCoreS n a0 = some r → AC Try.prog 119 [.ro (List.map Core.ds a0)] (.ow (some 4) (List.map Core.ds r))) := (l_toCoreS_all n).1
theorem l_toCoreS_l2_ok (n : Nat) : (∀ (a0 : List Core) (p1_0 : List Core) (p1_1 : Int) (r : (List Core)), l_toCoreS_l2 n a0 p1_0 p1_1 = some r → posF Try.prog Try.f119 [1, 1, 0, 1, 0] (.ow (some 4) (List.map Core.ds r)) ⟨[(0, .ro (List.map Core.ds a0)), (3, .own 1000001000), (4, .int .i64 p1_1)], [(1000001000, some ⟨List.map Core.ds p1_0, some 4, 0⟩)], []⟩) := (l_toCoreS_all n).2.1
theorem l_toCore_ok (n : Nat) : (∀ (a0 : Core) (r : Core), l_toCore n a0 = some r → AC Try.prog 63 [.agg (Core.avs a0)] (.agg (Core.rv r))) := (l_toCoreS_all n).2.2

theorem l_eqInt64S_l1_all (n : Nat) : (∀ (a0 : List Int) (a1 : List Int) (p0_0 : Int) (r : Bool), l_eqInt64S_l1 n a0 a1 p0_0 = some r → posF Try.prog Try.f38 [1, 1, 0, 1, 0] (.bool r) ⟨[(0, .ro (List.map i64D a0)), (1, .ro (List.map i64D a1)), (5, .int .i64 p0_0)], [], []⟩) := by
  induction n with
  | zero => exact ((fun _ _ _ _ h => by rw [l_eqInt64S_l1] at h; cases h))
  | succ n ih =>
    have ih0 := ih
    · intro a0 a1 p0_0 r h
      rw [l_eqInt64S_l1] at h
      refine posF_of rfl rfl ?_
      try simp only [go_sem]
      refine loop_i ?_
      try simp only [go_sem]
      refine cond_i (fun hb2 => ?_) (fun hb2 => ?_)
      · replace h := ifT (c := (decide (p0_0 < ((List.length a0 : Nat) : Int)))) hb2 h
        try simp only [go_sem]
        refine seq_go ?_
        try simp only [go_sem]
        refine draw_i [] .fin (by kernel_rfl) ?_
        try simp only [go_sem]
        replace h := bindE h
        obtain ⟨v7002, hv7002, h⟩ := h
        refine idx_m hv7002 rfl ?_
        try simp only [go_sem]
        replace h := bindE h
        obtain ⟨v7006, hv7006, h⟩ := h
        refine idx_m hv7006 rfl ?_
        try simp only [go_sem]
        refine seq_go ?_
        try simp only [go_sem]
        refine cond_i (fun hb3 => ?_) (fun hb3 => ?_)
        · replace h := ifT (c := (!decide (v7002 = v7006))) hb3 h
          try simp only [go_sem]
          replace h := Option.some.inj h
          obtain rfl := h
          simp only [go_sem]
        · replace h := ifF (c := (!decide (v7002 = v7006))) hb3 h
          try simp only [go_sem]
          refine seq_go ?_
          try simp only [go_sem]
          have hj := posF_to rfl rfl (ih0 a0 a1 (IntKind.i64.wrap (p0_0 + 1)) _ h)
          refine lp_to hj (.one ⟨_, .done _, [], [], ?_⟩)
          clear hj
          try simp only [go_sem]
      · replace h := ifF (c := (decide (p0_0 < ((List.length a0 : Nat) : Int)))) hb2 h
        try simp only [go_sem]
        refine seq_go ?_
        try simp only [go_sem]
        replace h := Option.some.inj h
        obtain rfl := h
        simp only [go_sem]
theorem l_eqInt64S_l1_ok (n : Nat) : (∀ (a0 : List Int) (a1 : List Int) (p0_0 : Int) (r : Bool), l_eqInt64S_l1 n a0 a1 p0_0 = some r → posF Try.prog Try.f38 [1, 1, 0, 1, 0] (.bool r) ⟨[(0, .ro (List.map i64D a0)), (1, .ro (List.map i64D a1)), (5, .int .i64 p0_0)], [], []⟩) := (l_eqInt64S_l1_all n)

theorem l_eqInt64S_ok (a0 : List Int) (a1 : List Int) (r : Bool) (h : l_eqInt64S a0 a1 = some r) : AC Try.prog 38 [.ro (List.map i64D a0), .ro (List.map i64D a1)] (.bool r) := by
  unfold l_eqInt64S at h
  refine ac_fn mixed Try.func38 rfl rfl rfl (by kernel_rfl) (by kernel_rfl) ?_
  try simp only [go_sem]
  refine cond_i (fun hb1 => ?_) (fun hb1 => ?_)
  · replace h := ifT (c := (!decide (((List.length a0 : Nat) : Int) = ((List.length a1 : Nat) : Int)))) hb1 h
    try simp only [go_sem]
    replace h := Option.some.inj h
    obtain rfl := h
    simp only [go_sem]
  · replace h := ifF (c := (!decide (((List.length a0 : Nat) : Int) = ((List.length a1 : Nat) : Int)))) hb1 h
    try simp only [go_sem]
    refine seq_go ?_
    try simp only [go_sem]
    have hj := posF_to rfl rfl (l_eqInt64S_l1_ok fuel a0 a1 0 _ h)
    refine loop_to hj (.one ⟨_, .done _, [], [], ?_⟩)
    clear hj
    try simp only [go_sem]
theorem l_eqCoreS_all (n : Nat) : (∀ (a0 : List Core) (a1 : List Core) (r : Bool), l_eqCoreS n a0 a1 = some r → AC Try.prog 126 [.ro (List.map Core.ds a0), .ro (List.map Core.ds a1)] (.bool r)) ∧
    (∀ (a0 : List Core) (a1 : List Core) (p0_0 : Int) (r : Bool), l_eqCoreS_l1 n a0 a1 p0_0 = some r → posF Try.prog Try.f126 [1, 1, 0, 1, 0] (.bool r) ⟨[(0, .ro (List.map Core.ds a0)), (1, .ro (List.map Core.ds a1)), (5, .int .i64 p0_0)], [], []⟩) ∧
    (∀ (a0 : Core) (a1 : Core) (r : Bool), l_eqCore n a0 a1 = some r → AC Try.prog 69 [.agg (Core.avs a0), .agg (Core.avs a1)] (.bool r)) := by
  induction n with
  | zero => exact ⟨(fun _ _ _ h => by rw [l_eqCoreS] at h; cases h), (fun _ _ _ _ h => by rw [l_eqCoreS_l1] at h; cases h), (fun _ _ _ h => by rw [l_eqCore] at h; cases h)⟩
  | succ n ih =>
    obtain ⟨ih0, ih1, ih2⟩ := ih
    refine ⟨?_, ?_, ?_⟩
    · intro a0 a1 r h
      rw [l_eqCoreS] at h
      refine ac_fn mixed Try.func126 rfl rfl rfl (by kernel_rfl) (by kernel_rfl) ?_
      try simp only [go_sem]
      refine cond_i (fun hb1 => ?_) (fun hb1 => ?_)
      · replace h := ifT (c := (!decide (((List.length a0 : Nat) : Int) = ((List.length a1 : Nat) : Int)))) hb1 h
        try simp only [go_sem]
        replace h := Option.some.inj h
        obtain rfl := h
        simp only [go_sem]
      · replace h := ifF (c := (!decide (((List.length a0 : Nat) : Int) = ((List.length a1 : Nat) : Int)))) hb1 h
        try simp only [go_sem]
        refine seq_go ?_
        try simp only [go_sem]
        have hj := posF_to rfl rfl (ih1 a0 a1 0 _ h)
        refine loop_to hj (.one ⟨_, .done _, [], [], ?_⟩)
        clear hj
        try simp only [go_sem]
    · intro a0 a1 p0_0 r h
      rw [l_eqCoreS_l1] at h
      refine posF_of rfl rfl ?_
      try simp only [go_sem]
      refine loop_i ?_
      try simp only [go_sem]
      refine cond_i (fun hb2 => ?_) (fun hb2 => ?_)
      · replace h := ifT (c := (decide (p0_0 < ((List.length a0 : Nat) : Int)))) hb2 h
        try simp only [go_sem]
        refine seq_go ?_
        try simp only [go_sem]
        refine draw_i [] .fin (by kernel_rfl) ?_
        try simp only [go_sem]
        replace h := bindE h
        obtain ⟨v7002, hv7002, h⟩ := h
        refine idx_m hv7002 (Core.ds_len _) ?_
        try simp only [go_sem]
        replace h := bindE h
        obtain ⟨v7006, hv7006, h⟩ := h
        refine idx_m hv7006 (Core.ds_len _) ?_
        try simp only [go_sem]
        replace h := bindE h
        obtain ⟨v7008, hv7008, h⟩ := h
        refine call_i (ih2 _ _ _ hv7008) ?_
        try simp only [go_sem]
        refine seq_go ?_
        try simp only [go_sem]
        refine cond_i (fun hb3 => ?_) (fun hb3 => ?_)
        · replace h := ifT (c := (!v7008)) hb3 h
          try simp only [go_sem]
          replace h := Option.some.inj h
          obtain rfl := h
          simp only [go_sem]
        · replace h := ifF (c := (!v7008)) hb3 h
          try simp only [go_sem]
          refine seq_go ?_
          try simp only [go_sem]
          have hj := posF_to rfl rfl (ih1 a0 a1 (IntKind.i64.wrap (p0_0 + 1)) _ h)
          refine lp_to hj (.one ⟨_, .done _, [], [], ?_⟩)
          clear hj
          try simp only [go_sem]
      · replace h := ifF (c := (decide (p0_0 < ((List.length a0 : Nat) : Int)))) hb2 h
        try simp only [go_sem]
        refine seq_go ?_
        try simp only [go_sem]
        replace h := Option.some.inj h
        obtain rfl := h
        simp only [go_sem]
    · intro a0 a1 r h
      rw [l_eqCore] at h
      refine ac_fn mixed Try.func69 rfl rfl rfl (by kernel_rfl) (by kernel_rfl) ?_
      try simp only [go_sem]
      refine cond_i (fun hb1 => ?_) (fun hb1 => ?_)
      · replace h := ifT (c := (!decide (a0.kind = a1.kind))) hb1 h
        try simp only [go_sem]
        replace h := Option.some.inj h
        obtain rfl := h
        simp only [go_sem]
      · replace h := ifF (c := (!decide (a0.kind = a1.kind))) hb1 h
        try simp only [go_sem]
        refine seq_go ?_
        try simp only [go_sem]
        refine cond_i (fun hb2 => ?_) (fun hb2 => ?_)
        · replace h := ifT (c := (!decide (a0.value = a1.value))) hb2 h
          try simp only [go_sem]
          replace h := Option.some.inj h
          obtain rfl := h
          simp only [go_sem]
        · replace h := ifF (c := (!decide (a0.value = a1.value))) hb2 h
          try simp only [go_sem]
          refine seq_go ?_
          try simp only [go_sem]
          replace h := bindE h
          obtain ⟨v6004, hv6004, h⟩ := h
          refine call_i (l_eqInt64S_ok _ _ _ hv6004) ?_
          try simp only [go_sem]
          refine cond_i (fun hb3 => ?_) (fun hb3 => ?_)
          · replace h := ifT (c := (!v6004)) hb3 h
            try simp only [go_sem]
            replace h := Option.some.inj h
            obtain rfl := h
            simp only [go_sem]
          · replace h := ifF (c := (!v6004)) hb3 h
            try simp only [go_sem]
            refine seq_go ?_
            try simp only [go_sem]
            replace h := bindE h
            obtain ⟨v8004, hv8004, h⟩ := h
            refine call_i (ih0 _ _ _ hv8004) ?_
            try simp only [go_sem]
            refine cond_i (fun hb4 => ?_) (fun hb4 => ?_)
            · replace h := ifT (c := (!v8004)) hb4 h
              try simp only [go_sem]
              replace h := Option.some.inj h
              obtain rfl := h
              simp only [go_sem]
            · replace h := ifF (c := (!v8004)) hb4 h
              try simp only [go_sem]
              refine seq_go ?_
              try simp only [go_sem]
              replace h := Option.some.inj h
              obtain rfl := h
              simp only [go_sem]
theorem l_eqCoreS_ok (n : Nat) : (∀ (a0 : List Core) (a1 : List Core) (r : Bool), l_eqCoreS n a0 a1 = some r → AC Try.prog 126 [.ro (List.map Core.ds a0), .ro (List.map Core.ds a1)] (.bool r)) := (l_eqCoreS_all n).1
theorem l_eqCoreS_l1_ok (n : Nat) : (∀ (a0 : List Core) (a1 : List Core) (p0_0 : Int) (r : Bool), l_eqCoreS_l1 n a0 a1 p0_0 = some r → posF Try.prog Try.f126 [1, 1, 0, 1, 0] (.bool r) ⟨[(0, .ro (List.map Core.ds a0)), (1, .ro (List.map Core.ds a1)), (5, .int .i64 p0_0)], [], []⟩) := (l_eqCoreS_all n).2.1
theorem l_eqCore_ok (n : Nat) : (∀ (a0 : Core) (a1 : Core) (r : Bool), l_eqCore n a0 a1 = some r → AC Try.prog 69 [.agg (Core.avs a0), .agg (Core.avs a1)] (.bool r)) := (l_eqCoreS_all n).2.2

theorem l_markInt64S_l1_all (n : Nat) : (∀ (p0_0 : List Int) (p0_1 : Int) (p0_2 : Int) (z1 : Option Nat) (r : Int × (List Int)), l_markInt64S_l1 n p0_0 p0_1 p0_2 = some r → posG Try.prog Try.f41 [1, 0, 1, 0] (.int .i64 r.1) [(1, ⟨List.map i64D r.2, z1, 0⟩)] [] ⟨[(0, .own 1), (1, .int .i64 p0_1), (5, .int .i64 p0_2)], [(1, some ⟨List.map i64D p0_0, z1, 0⟩)], []⟩) := by
  induction n with
  | zero => exact ((fun _ _ _ _ _ h => by rw [l_markInt64S_l1] at h; cases h))
  | succ n ih =>
    have ih0 := ih
    · intro p0_0 p0_1 p0_2 z1 r h
      rw [l_markInt64S_l1] at h
      refine posG_of rfl rfl ?_
      try simp only [go_sem]
      refine loop_i ?_
      try simp only [go_sem]
      refine cond_i (fun hb1 => ?_) (fun hb1 => ?_)
      · replace h := ifT (c := (decide (p0_2 < ((List.length p0_0 : Nat) : Int)))) hb1 h
        try simp only [go_sem]
        refine seq_go ?_
        try simp only [go_sem]
        replace h := bindE h
        obtain ⟨v5003, hv5003, h⟩ := h
        refine idx_m hv5003 rfl ?_
        try simp only [go_sem]
        replace h := bindE h
        obtain ⟨v5004_8, hv5004_8, h⟩ := h
        refine opt_i (row_m hv5003) ?_
        try simp only [go_sem]
        refine row_i (List.map i64D v5004_8) (by rw [← set1_some hv5004_8]; simp only [List.map_set, go_sem, slD]) ?_
        try simp only [go_sem]
        refine seq_go ?_
        try simp only [go_sem]
        have hj := posG_to rfl rfl (ih0 v5004_8 (IntKind.i64.wrap (p0_1 + 1)) (IntKind.i64.wrap (p0_2 + 1)) z1 _ h)
        refine lp_to hj (.one ⟨_, .done _, [(1, 1)], [], ?_⟩)
        clear hj
        try simp only [go_sem]
      · replace h := ifF (c := (decide (p0_2 < ((List.length p0_0 : Nat) : Int)))) hb1 h
        try simp only [go_sem]
        refine seq_go ?_
        try simp only [go_sem]
        replace h := Option.some.inj h
        obtain rfl := h
        refine ret_i (.done _) [(1, 1)] [] ?_
        simp only [go_sem]
theorem l_markInt64S_l1_ok (n : Nat) : (∀ (p0_0 : List Int) (p0_1 : Int) (p0_2 : Int) (z1 : Option Nat) (r : Int × (List Int)), l_markInt64S_l1 n p0_0 p0_1 p0_2 = some r → posG Try.prog Try.f41 [1, 0, 1, 0] (.int .i64 r.1) [(1, ⟨List.map i64D r.2, z1, 0⟩)] [] ⟨[(0, .own 1), (1, .int .i64 p0_1), (5, .int .i64 p0_2)], [(1, some ⟨List.map i64D p0_0, z1, 0⟩)], []⟩) := (l_markInt64S_l1_all n)

theorem l_markInt64S_ok (a0 : List Int) (a1 : Int) (z1 : Option Nat) (r : Int × (List Int)) (h : l_markInt64S a0 a1 = some r) : AG Try.prog 41 [.own 1, .int .i64 a1] [(1, ⟨List.map i64D a0, z1, 0⟩)] [] (.int .i64 r.1) [(1, ⟨List.map i64D r.2, z1, 0⟩)] [] := by
  unfold l_markInt64S at h
  refine ag_fn mixed Try.func41 rfl rfl rfl (by kernel_rfl) (by kernel_rfl) ?_
  try simp only [go_sem]
  have hj := posG_to rfl rfl (l_markInt64S_l1_ok fuel a0 a1 0 z1 _ h)
  refine loop_to hj (.one ⟨_, .done _, [(1, 1)], [], ?_⟩)
  clear hj
  try simp only [go_sem]
theorem l_markCoreS_all (n : Nat) : (∀ (a0 : List Core) (a1 : Int) (z1 : Option Nat) (r : Int × (List Core)), l_markCoreS n a0 a1 = some r → AG Try.prog 127 [.own 1, .int .i64 a1] [(1, ⟨List.map Core.ds a0, z1, 0⟩)] [] (.int .i64 r.1) [(1, ⟨List.map Core.ds r.2, z1, 0⟩)] []) ∧
    (∀ (p0_0 : List Core) (p0_1 : Int) (p0_2 : Int) (z1 : Option Nat) (r : Int × (List Core)), l_markCoreS_l1 n p0_0 p0_1 p0_2 = some r → posG Try.prog Try.f127 [1, 0, 1, 0] (.int .i64 r.1) [(1, ⟨List.map Core.ds r.2, z1, 0⟩)] [] ⟨[(0, .own 1), (1, .int .i64 p0_1), (5, .int .i64 p0_2)], [(1, some ⟨List.map Core.ds p0_0, z1, 0⟩)], []⟩) := by
  induction n with
  | zero => exact ⟨(fun _ _ _ _ h => by rw [l_markCoreS] at h; cases h), (fun _ _ _ _ _ h => by rw [l_markCoreS_l1] at h; cases h)⟩
  | succ n ih =>
    obtain ⟨ih0, ih1⟩ := ih
    refine ⟨?_, ?_⟩
    · intro a0 a1 z1 r h
      rw [l_markCoreS] at h
      refine ag_fn mixed Try.func127 rfl rfl rfl (by kernel_rfl) (by kernel_rfl) ?_
      try simp only [go_sem]
      have hj := posG_to rfl rfl (ih1 a0 a1 0 z1 _ h)
      refine loop_to hj (.one ⟨_, .done _, [(1, 1)], [], ?_⟩)
      clear hj
      try simp only [go_sem]
    · intro p0_0 p0_1 p0_2 z1 r h
      rw [l_markCoreS_l1] at h
      refine posG_of rfl rfl ?_
      try simp only [go_sem]
      refine loop_i ?_
      try simp only [go_sem]
      refine cond_i (fun hb1 => ?_) (fun hb1 => ?_)
      · replace h := ifT (c := (decide (p0_2 < ((List.length p0_0 : Nat) : Int)))) hb1 h
        try simp only [go_sem]
        refine seq_go ?_
        try simp only [go_sem]
        replace h := bindE h
        obtain ⟨v5003, hv5003, h⟩ := h
        refine idx_m hv5003 (Core.ds_len _) ?_
        try simp only [go_sem]
        replace h := bindE h
        obtain ⟨v5005_29, hv5005_29, h⟩ := h
        refine opt_i (row_m hv5003) ?_
        try simp only [go_sem]
        refine row_i (List.map Core.ds v5005_29) (by rw [← set1_some hv5005_29]; simp only [List.map_set, go_sem, Core.ds_eq]) ?_
        try simp only [go_sem]
        replace h := bindE h
        obtain ⟨v7003, hv7003, h⟩ := h
        refine idx_m hv7003 (Core.ds_len _) ?_
        try simp only [go_sem]
        replace h := bindE h
        obtain ⟨v7005_30, hv7005_30, h⟩ := h
        refine opt_i (row_m hv7003) ?_
        try simp only [go_sem]
        refine row_i (List.map Core.ds v7005_30) (by rw [← set1_some hv7005_30]; simp only [List.map_set, go_sem, Core.ds_eq]) ?_
        try simp only [go_sem]
        replace h := bindE h
        obtain ⟨v9002, hv9002, h⟩ := h
        refine idx_m hv9002 (Core.ds_len _) ?_
        try simp only [go_sem]
        refine opt_i (row_m hv9002) ?_
        try simp only [go_sem]
        replace h := bindE h
        obtain ⟨v9006, hv9006, h⟩ := h
        replace h := bindE h
        obtain ⟨v9006_31, hv9006_31, h⟩ := h
        refine call_g ⟨[(3000144096, .sub 1 0 [(4, Int.toNat p0_2, 2)], none)], [(1, 3000144096)], [], [], [], true⟩ (by kernel_rfl) (l_markInt64S_ok _ _ none _ hv9006) (by kernel_rfl) ?_
        try simp only [go_sem]
        refine opt_i (getP_1 (r := List.map i64D v9002.data) (row_m hv9002) (Core.ds_len _) (by simp only [go_sem, Core.ds_eq])) ?_
        try simp only [go_sem]
        refine row_i ((List.map Core.ds v7005_30).set (Int.toNat p0_2) [.int .i64 v9002.kind, .int .i64 v9002.value, .gone, .sl (List.map Core.ds v9002.kids)]) ((putR_1 (row_m hv9002) (d' := .sl (List.map i64D v9002.data)) (by simp only [go_sem, Core.ds_eq])).trans (by simp only [go_sem, Core.ds_eq])) ?_
        try simp only [go_sem]
        refine and_i (getC_1 (set_at (row_m hv9002)) rfl rfl) ?_
        try simp only [go_sem]
        refine row_i (List.map Core.ds v9006_31) (((putR_1 (set_at (row_m hv9002)) (d' := .gone) rfl).trans (List.set_set ..)).trans (by rw [← set1_some hv9006_31]; simp only [List.map_set, go_sem, Core.ds_eq])) ?_
        try simp only [go_sem]
        replace h := bindE h
        obtain ⟨v10002, hv10002, h⟩ := h
        refine idx_m hv10002 (Core.ds_len _) ?_
        try simp only [go_sem]
        refine opt_i (row_m hv10002) ?_
        try simp only [go_sem]
        replace h := bindE h
        obtain ⟨v10006, hv10006, h⟩ := h
        replace h := bindE h
        obtain ⟨v10006_32, hv10006_32, h⟩ := h
        refine call_g ⟨[(3000160096, .sub 1 0 [(4, Int.toNat p0_2, 3)], none)], [(1, 3000160096)], [], [], [], true⟩ (by kernel_rfl) (ih0 _ _ none _ hv10006) (by kernel_rfl) ?_
        try simp only [go_sem]
        refine opt_i (getP_1 (r := List.map Core.ds v10002.kids) (row_m hv10002) (Core.ds_len _) (by simp only [go_sem, Core.ds_eq])) ?_
        try simp only [go_sem]
        refine row_i ((List.map Core.ds v9006_31).set (Int.toNat p0_2) [.int .i64 v10002.kind, .int .i64 v10002.value, .sl (List.map i64D v10002.data), .gone]) ((putR_1 (row_m hv10002) (d' := .sl (List.map Core.ds v10002.kids)) (by simp only [go_sem, Core.ds_eq])).trans (by simp only [go_sem, Core.ds_eq])) ?_
        try simp only [go_sem]
        refine and_i (getC_1 (set_at (row_m hv10002)) rfl rfl) ?_
        try simp only [go_sem]
        refine row_i (List.map Core.ds v10006_32) (((putR_1 (set_at (row_m hv10002)) (d' := .gone) rfl).trans (List.set_set ..)).trans (by rw [← set1_some hv10006_32]; simp only [List.map_set, go_sem, Core.ds_eq])) ?_
        try simp only [go_sem]
        refine seq_go ?_
        try simp only [go_sem]
        have hj := posG_to rfl rfl (ih1 v10006_32 v10006.1 (IntKind.i64.wrap (p0_2 + 1)) z1 _ h)
        refine lp_to hj (.one ⟨_, .done _, [(1, 1)], [], ?_⟩)
        clear hj
        try simp only [go_sem]
      · replace h := ifF (c := (decide (p0_2 < ((List.length p0_0 : Nat) : Int)))) hb1 h
        try simp only [go_sem]
        refine seq_go ?_
        try simp only [go_sem]
        replace h := Option.some.inj h
        obtain rfl := h
        refine ret_i (.done _) [(1, 1)] [] ?_
        simp only [go_sem]
theorem l_markCoreS_ok (n : Nat) : (∀ (a0 : List Core) (a1 : Int) (z1 : Option Nat) (r : Int × (List Core)), l_markCoreS n a0 a1 = some r → AG Try.prog 127 [.own 1, .int .i64 a1] [(1, ⟨List.map Core.ds a0, z1, 0⟩)] [] (.int .i64 r.1) [(1, ⟨List.map Core.ds r.2, z1, 0⟩)] []) := (l_markCoreS_all n).1
theorem l_markCoreS_l1_ok (n : Nat) : (∀ (p0_0 : List Core) (p0_1 : Int) (p0_2 : Int) (z1 : Option Nat) (r : Int × (List Core)), l_markCoreS_l1 n p0_0 p0_1 p0_2 = some r → posG Try.prog Try.f127 [1, 0, 1, 0] (.int .i64 r.1) [(1, ⟨List.map Core.ds r.2, z1, 0⟩)] [] ⟨[(0, .own 1), (1, .int .i64 p0_1), (5, .int .i64 p0_2)], [(1, some ⟨List.map Core.ds p0_0, z1, 0⟩)], []⟩) := (l_markCoreS_all n).2

theorem l_markCore_ok (a0 : Core) (a1 : Int) (z1 : Option Nat) (z2 : Option Nat) (r : Int × (List Int) × (List Core)) (h : l_markCore a0 a1 = some r) : AG Try.prog 70 [.agg [.int .i64 a0.kind, .int .i64 a0.value, .own 1, .own 2], .int .i64 a1] [(1, ⟨List.map i64D a0.data, z1, 0⟩), (2, ⟨List.map Core.ds a0.kids, z2, 0⟩)] [] (.int .i64 r.1) [(1, ⟨List.map i64D r.2.1, z1, 0⟩), (2, ⟨List.map Core.ds r.2.2, z2, 0⟩)] [] := by
  unfold l_markCore at h
  refine ag_fn mixed Try.func70 rfl rfl rfl (by kernel_rfl) (by kernel_rfl) ?_
  try simp only [go_sem]
  replace h := bindE h
  obtain ⟨v2003, hv2003, h⟩ := h
  refine call_g ⟨[], [(1, 1)], [], [], [], true⟩ (by kernel_rfl) (l_markInt64S_ok _ _ z1 _ hv2003) (by kernel_rfl) ?_
  try simp only [go_sem]
  replace h := bindE h
  obtain ⟨v3003, hv3003, h⟩ := h
  refine call_g ⟨[], [(1, 2)], [], [], [], true⟩ (by kernel_rfl) (l_markCoreS_ok fuel _ _ z2 _ hv3003) (by kernel_rfl) ?_
  try simp only [go_sem]
  replace h := Option.some.inj h
  obtain rfl := h
  refine ret_i (.done _) [(1, 1), (2, 2)] [] ?_
  simp only [go_sem]
end Go.Proofs.Ytocpkbclcnjejaa.Ab
