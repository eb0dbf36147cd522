/-
  The functions do what their models say. Printed by wip/ab/gen.py.
-/
import Derived.Test.YtocpkbclcnjejaaModC
import Derived.Test.YtocpkbclcnjejaaTi2
import Derived.Test.YtocpkbclcnjejaaWlkU
namespace Go.Proofs.Ytocpkbclcnjejaa.Ab
set_option linter.unusedVariables false
set_option linter.unusedSimpArgs false
set_option maxRecDepth 20000
set_option maxHeartbeats 4000000
open Go.RowKit

theorem s_l33Number_l3_all (n : Nat) : (∀ (p2_0 : List Int) (p2_1 : Int) (r : (List Int)), s_l33Number_l3 n p2_0 p2_1 = some r → posG Try.prog Try.f54 [1, 1, 1, 0, 0] (.own 1501) [(1501, ⟨List.map u8D r, some 1, 0⟩)] [] ⟨[(0, .own 1000002000), (5, .int .u64 p2_1)], [(1000002000, some ⟨List.map u8D p2_0, some 1, 0⟩)], []⟩) := by
  induction n with
  | zero => exact ((fun _ _ _ h => by rw [s_l33Number_l3] at h; cases h))
  | succ n ih =>
    have ih0 := ih
    · intro p2_0 p2_1 r h
      rw [s_l33Number_l3] at h
      refine posG_of rfl rfl ?_
      try simp only [go_sem]
      refine loop_i ?_
      try simp only [go_sem]
      refine cond_i (fun hb2 => ?_) (fun hb2 => ?_)
      · replace h := ifT (c := (decide (128 ≤ p2_1))) hb2 h
        try simp only [go_sem]
        refine seq_go ?_
        try simp only [go_sem]
        refine and_i (by decide) ?_
        try simp only [go_sem]
        replace h := bindE h
        obtain ⟨v6006, hv6006, h⟩ := h
        have hq_ := app_some hv6006
        obtain ⟨hv6006a, hv6006b⟩ := hq_
        refine and_i (by refine ⟨?_, ?_⟩ <;> (try simp only [List.length_map, List.length_append, List.length_cons, List.length_nil] at *) <;> (try unfold maxLen) <;> omega) ?_
        try simp only [go_sem]
        refine row_i (List.map u8D v6006) (by rw [← hv6006b]; simp only [List.map_append, List.map_cons, List.map_nil, List.nil_append, List.append_nil, go_sem, slD]) ?_
        try simp only [go_sem]
        refine and_i (by decide) ?_
        try simp only [go_sem]
        have hj := posG_to rfl rfl (ih0 v6006 (IntKind.u64.wrap (Int.tdiv p2_1 128)) _ h)
        refine lp_to hj (.one ⟨_, .done _, [(1000002000, 96096)], [], ?_⟩)
        clear hj
        try simp only [go_sem]
      · replace h := ifF (c := (decide (128 ≤ p2_1))) hb2 h
        try simp only [go_sem]
        refine seq_go ?_
        try simp only [go_sem]
        replace h := bindE h
        obtain ⟨v8004, hv8004, h⟩ := h
        have hq_ := app_some hv8004
        obtain ⟨hv8004a, hv8004b⟩ := hq_
        refine and_i (by refine ⟨?_, ?_⟩ <;> (try simp only [List.length_map, List.length_append, List.length_cons, List.length_nil] at *) <;> (try unfold maxLen) <;> omega) ?_
        try simp only [go_sem]
        refine row_i (List.map u8D v8004) (by rw [← hv8004b]; simp only [List.map_append, List.map_cons, List.map_nil, List.nil_append, List.append_nil, go_sem, slD]) ?_
        try simp only [go_sem]
        replace h := Option.some.inj h
        obtain rfl := h
        refine ret_i (.done _) [(1501, 128064)] [] ?_
        simp only [go_sem]
theorem s_l33Number_l3_ok (n : Nat) : (∀ (p2_0 : List Int) (p2_1 : Int) (r : (List Int)), s_l33Number_l3 n p2_0 p2_1 = some r → posG Try.prog Try.f54 [1, 1, 1, 0, 0] (.own 1501) [(1501, ⟨List.map u8D r, some 1, 0⟩)] [] ⟨[(0, .own 1000002000), (5, .int .u64 p2_1)], [(1000002000, some ⟨List.map u8D p2_0, some 1, 0⟩)], []⟩) := (s_l33Number_l3_all n)

theorem s_l33Number_j1_ok (a0 : List Int) (p0_0 : Int) (r : (List Int)) (h : s_l33Number_j1 a0 p0_0 = some r) : posG Try.prog Try.f54 [1, 1, 1] (.own 1501) [(1501, ⟨List.map u8D r, some 1, 0⟩)] [] ⟨[(0, .own 1000000000), (5, .int .u64 p0_0)], [(1000000000, some ⟨List.map u8D a0, some 1, 0⟩)], []⟩ := by
  unfold s_l33Number_j1 at h
  refine posG_of rfl rfl ?_
  try simp only [go_sem]
  have hj := posG_to rfl rfl (s_l33Number_l3_ok fuel a0 p0_0 _ h)
  refine loop_to hj (.one ⟨_, .done _, [(1000002000, 1000000000)], [], ?_⟩)
  clear hj
  try simp only [go_sem]
theorem s_l33Number_ok (a0 : List Int) (a1 : Int) (r : (List Int)) (h : s_l33Number a0 a1 = some r) : AG Try.prog 54 [.own 1001, .int .i64 a1] [(1001, ⟨List.map u8D a0, some 1, 0⟩)] [] (.own 1501) [(1501, ⟨List.map u8D r, some 1, 0⟩)] [] := by
  unfold s_l33Number at h
  refine ag_fn mixed Try.func54 rfl rfl rfl (by kernel_rfl) (by kernel_rfl) ?_
  try simp only [go_sem]
  refine and_i (by decide) ?_
  try simp only [go_sem]
  refine cond_i (fun hb1 => ?_) (fun hb1 => ?_)
  · replace h := ifT (c := (decide (a1 < 0))) hb1 h
    try simp only [go_sem]
    have hj := posG_to rfl rfl (s_l33Number_j1_ok a0 (bits BinOp.xor IntKind.u64 (if IntKind.signed IntKind.u64 = true then -1 else IntKind.max IntKind.u64) (IntKind.u64.wrap ((IntKind.u64.wrap a1) * 2 ^ min (Int.toNat 1) (IntKind.bits IntKind.u64)))) _ h)
    refine seq_to hj (.one ⟨_, .done _, [(1000000000, 1001)], [], ?_⟩)
    clear hj
    try simp only [go_sem]
  · replace h := ifF (c := (decide (a1 < 0))) hb1 h
    try simp only [go_sem]
    have hj := posG_to rfl rfl (s_l33Number_j1_ok a0 (IntKind.u64.wrap ((IntKind.u64.wrap a1) * 2 ^ min (Int.toNat 1) (IntKind.bits IntKind.u64))) _ h)
    refine seq_to hj (.one ⟨_, .done _, [(1000000000, 1001)], [], ?_⟩)
    clear hj
    try simp only [go_sem]
theorem i_appendNumber_l3_all (n : Nat) : (∀ (p2_0 : List Int) (p2_1 : Int) (r : (List Int)), i_appendNumber_l3 n p2_0 p2_1 = some r → posG Try.prog Try.f56 [1, 1, 1, 0, 0] (.own 1501) [(1501, ⟨List.map u8D r, some 1, 0⟩)] [] ⟨[(0, .own 1000002000), (5, .int .i64 p2_1)], [(1000002000, some ⟨List.map u8D p2_0, some 1, 0⟩)], []⟩) := by
  induction n with
  | zero => exact ((fun _ _ _ h => by rw [i_appendNumber_l3] at h; cases h))
  | succ n ih =>
    have ih0 := ih
    · intro p2_0 p2_1 r h
      rw [i_appendNumber_l3] at h
      refine posG_of rfl rfl ?_
      try simp only [go_sem]
      refine loop_i ?_
      try simp only [go_sem]
      refine cond_i (fun hb2 => ?_) (fun hb2 => ?_)
      · replace h := ifT (c := (decide (128 ≤ p2_1))) hb2 h
        try simp only [go_sem]
        refine seq_go ?_
        try simp only [go_sem]
        refine and_i (by decide) ?_
        try simp only [go_sem]
        replace h := bindE h
        obtain ⟨v6006, hv6006, h⟩ := h
        have hq_ := app_some hv6006
        obtain ⟨hv6006a, hv6006b⟩ := hq_
        refine and_i (by refine ⟨?_, ?_⟩ <;> (try simp only [List.length_map, List.length_append, List.length_cons, List.length_nil] at *) <;> (try unfold maxLen) <;> omega) ?_
        try simp only [go_sem]
        refine row_i (List.map u8D v6006) (by rw [← hv6006b]; simp only [List.map_append, List.map_cons, List.map_nil, List.nil_append, List.append_nil, go_sem, slD]) ?_
        try simp only [go_sem]
        refine and_i (by decide) ?_
        try simp only [go_sem]
        have hj := posG_to rfl rfl (ih0 v6006 (IntKind.i64.wrap (Int.tdiv p2_1 128)) _ h)
        refine lp_to hj (.one ⟨_, .done _, [(1000002000, 96096)], [], ?_⟩)
        clear hj
        try simp only [go_sem]
      · replace h := ifF (c := (decide (128 ≤ p2_1))) hb2 h
        try simp only [go_sem]
        refine seq_go ?_
        try simp only [go_sem]
        replace h := bindE h
        obtain ⟨v8004, hv8004, h⟩ := h
        have hq_ := app_some hv8004
        obtain ⟨hv8004a, hv8004b⟩ := hq_
        refine and_i (by refine ⟨?_, ?_⟩ <;> (try simp only [List.length_map, List.length_append, List.length_cons, List.length_nil] at *) <;> (try unfold maxLen) <;> omega) ?_
        try simp only [go_sem]
        refine row_i (List.map u8D v8004) (by rw [← hv8004b]; simp only [List.map_append, List.map_cons, List.map_nil, List.nil_append, List.append_nil, go_sem, slD]) ?_
        try simp only [go_sem]
        replace h := Option.some.inj h
        obtain rfl := h
        refine ret_i (.done _) [(1501, 128064)] [] ?_
        simp only [go_sem]
theorem i_appendNumber_l3_ok (n : Nat) : (∀ (p2_0 : List Int) (p2_1 : Int) (r : (List Int)), i_appendNumber_l3 n p2_0 p2_1 = some r → posG Try.prog Try.f56 [1, 1, 1, 0, 0] (.own 1501) [(1501, ⟨List.map u8D r, some 1, 0⟩)] [] ⟨[(0, .own 1000002000), (5, .int .i64 p2_1)], [(1000002000, some ⟨List.map u8D p2_0, some 1, 0⟩)], []⟩) := (i_appendNumber_l3_all n)

theorem i_appendNumber_j1_ok (a0 : List Int) (p0_0 : Int) (r : (List Int)) (h : i_appendNumber_j1 a0 p0_0 = some r) : posG Try.prog Try.f56 [1, 1, 1] (.own 1501) [(1501, ⟨List.map u8D r, some 1, 0⟩)] [] ⟨[(0, .own 1000000000), (5, .int .i64 p0_0)], [(1000000000, some ⟨List.map u8D a0, some 1, 0⟩)], []⟩ := by
  unfold i_appendNumber_j1 at h
  refine posG_of rfl rfl ?_
  try simp only [go_sem]
  have hj := posG_to rfl rfl (i_appendNumber_l3_ok fuel a0 p0_0 _ h)
  refine loop_to hj (.one ⟨_, .done _, [(1000002000, 1000000000)], [], ?_⟩)
  clear hj
  try simp only [go_sem]
theorem i_appendNumber_ok (a0 : List Int) (a1 : Int) (r : (List Int)) (h : i_appendNumber a0 a1 = some r) : AG Try.prog 56 [.own 1001, .int .i64 a1] [(1001, ⟨List.map u8D a0, some 1, 0⟩)] [] (.own 1501) [(1501, ⟨List.map u8D r, some 1, 0⟩)] [] := by
  unfold i_appendNumber at h
  refine ag_fn mixed Try.func56 rfl rfl rfl (by kernel_rfl) (by kernel_rfl) ?_
  try simp only [go_sem]
  refine cond_i (fun hb1 => ?_) (fun hb1 => ?_)
  · replace h := ifT (c := (decide (a1 < 0))) hb1 h
    try simp only [go_sem]
    have hj := posG_to rfl rfl (i_appendNumber_j1_ok a0 (IntKind.i64.wrap ((IntKind.i64.wrap ((-2) * a1)) - 1)) _ h)
    refine seq_to hj (.one ⟨_, .done _, [(1000000000, 1001)], [], ?_⟩)
    clear hj
    try simp only [go_sem]
  · replace h := ifF (c := (decide (a1 < 0))) hb1 h
    try simp only [go_sem]
    have hj := posG_to rfl rfl (i_appendNumber_j1_ok a0 (IntKind.i64.wrap (2 * a1)) _ h)
    refine seq_to hj (.one ⟨_, .done _, [(1000000000, 1001)], [], ?_⟩)
    clear hj
    try simp only [go_sem]
theorem s_l33Sum_l3_all (n : Nat) : (∀ (a0 : List Int) (p0_0 : Int) (p0_1 : Int) (r : Int), s_l33Sum_l3 n a0 p0_0 p0_1 = some r → posF Try.prog Try.f151 [1, 1, 0, 1, 0] (.int .u32 r) ⟨[(0, .ro (List.map u8D a0)), (3, .int .u32 p0_0), (4, .int .i64 p0_1)], [], []⟩) ∧
    (∀ (a0 : List Int) (p0_1 : Int) (p1_0 : Int) (p1_1 : Int) (r : Int), s_l33Sum_l4 n a0 p0_1 p1_0 p1_1 = some r → posF Try.prog Try.f151 [1, 1, 0, 1, 0, 0, 1, 0, 0, 1, 1, 0] (.int .u32 r) ⟨[(0, .ro (List.map u8D a0)), (3, .int .u32 p1_0), (4, .int .i64 p0_1), (5, .int .i64 p1_1)], [], []⟩) := by
  induction n with
  | zero => exact ⟨(fun _ _ _ _ h => by rw [s_l33Sum_l3] at h; cases h), (fun _ _ _ _ _ h => by rw [s_l33Sum_l4] at h; cases h)⟩
  | succ n ih =>
    obtain ⟨ih0, ih1⟩ := ih
    refine ⟨?_, ?_⟩
    · intro a0 p0_0 p0_1 r h
      rw [s_l33Sum_l3] at h
      refine posF_of rfl rfl ?_
      try simp only [go_sem]
      refine loop_i ?_
      try simp only [go_sem]
      refine cond_i (fun hb1 => ?_) (fun hb1 => ?_)
      · replace h := ifT (c := (decide (p0_1 < ((List.length a0 : Nat) : Int)))) hb1 h
        try simp only [go_sem]
        refine seq_go ?_
        try simp only [go_sem]
        replace h := bindE h
        obtain ⟨v6003, hv6003, h⟩ := h
        refine idx_m hv6003 rfl ?_
        try simp only [go_sem]
        have hj := posF_to rfl rfl (ih1 a0 p0_1 (bits BinOp.xor IntKind.u32 p0_0 (IntKind.u32.wrap v6003)) 0 _ h)
        refine loop_to hj (.one ⟨_, .done _, [], [], ?_⟩)
        clear hj
        try simp only [go_sem]
      · replace h := ifF (c := (decide (p0_1 < ((List.length a0 : Nat) : Int)))) hb1 h
        try simp only [go_sem]
        refine seq_go ?_
        try simp only [go_sem]
        replace h := Option.some.inj h
        obtain rfl := h
        simp only [go_sem]
    · intro a0 p0_1 p1_0 p1_1 r h
      rw [s_l33Sum_l4] at h
      refine posF_of rfl rfl ?_
      try simp only [go_sem]
      refine loop_i ?_
      try simp only [go_sem]
      refine cond_i (fun hb2 => ?_) (fun hb2 => ?_)
      · replace h := ifT (c := (decide (p1_1 < 8))) hb2 h
        try simp only [go_sem]
        refine seq_go ?_
        try simp only [go_sem]
        refine and_i (by decide) ?_
        try simp only [go_sem]
        refine cond_i (fun hb3 => ?_) (fun hb3 => ?_)
        · replace h := ifT (c := (decide ((bits BinOp.and IntKind.u32 p1_0 1) = 1))) hb3 h
          try simp only [go_sem]
          refine seq_go ?_
          try simp only [go_sem]
          have hj := posF_to rfl rfl (ih1 a0 p0_1 (bits BinOp.xor IntKind.u32 (p1_0 / 2 ^ min (Int.toNat 1) (IntKind.bits IntKind.u32)) 3988292384) (IntKind.i64.wrap (p1_1 + 1)) _ h)
          refine lp_to hj (.one ⟨_, .done _, [], [], ?_⟩)
          clear hj
          try simp only [go_sem]
        · replace h := ifF (c := (decide ((bits BinOp.and IntKind.u32 p1_0 1) = 1))) hb3 h
          try simp only [go_sem]
          refine seq_go ?_
          try simp only [go_sem]
          have hj := posF_to rfl rfl (ih1 a0 p0_1 (p1_0 / 2 ^ min (Int.toNat 1) (IntKind.bits IntKind.u32)) (IntKind.i64.wrap (p1_1 + 1)) _ h)
          refine lp_to hj (.one ⟨_, .done _, [], [], ?_⟩)
          clear hj
          try simp only [go_sem]
      · replace h := ifF (c := (decide (p1_1 < 8))) hb2 h
        try simp only [go_sem]
        refine seq_go ?_
        try simp only [go_sem]
        have hj := posF_to rfl rfl (ih0 a0 p1_0 (IntKind.i64.wrap (p0_1 + 1)) _ h)
        refine lp_to hj (.one ⟨_, .done _, [], [], ?_⟩)
        clear hj
        try simp only [go_sem]
theorem s_l33Sum_l3_ok (n : Nat) : (∀ (a0 : List Int) (p0_0 : Int) (p0_1 : Int) (r : Int), s_l33Sum_l3 n a0 p0_0 p0_1 = some r → posF Try.prog Try.f151 [1, 1, 0, 1, 0] (.int .u32 r) ⟨[(0, .ro (List.map u8D a0)), (3, .int .u32 p0_0), (4, .int .i64 p0_1)], [], []⟩) := (s_l33Sum_l3_all n).1
theorem s_l33Sum_l4_ok (n : Nat) : (∀ (a0 : List Int) (p0_1 : Int) (p1_0 : Int) (p1_1 : Int) (r : Int), s_l33Sum_l4 n a0 p0_1 p1_0 p1_1 = some r → posF Try.prog Try.f151 [1, 1, 0, 1, 0, 0, 1, 0, 0, 1, 1, 0] (.int .u32 r) ⟨[(0, .ro (List.map u8D a0)), (3, .int .u32 p1_0), (4, .int .i64 p0_1), (5, .int .i64 p1_1)], [], []⟩) := (s_l33Sum_l3_all n).2

theorem s_l33Sum_ok (a0 : List Int) (r : Int) (h : s_l33Sum a0 = some r) : AC Try.prog 151 [.ro (List.map u8D a0)] (.int .u32 r) := by
  unfold s_l33Sum at h
  refine ac_fn mixed Try.func151 rfl rfl rfl (by kernel_rfl) (by kernel_rfl) ?_
  try simp only [go_sem]
  have hj := posF_to rfl rfl (s_l33Sum_l3_ok fuel a0 4294967295 0 _ h)
  refine loop_to hj (.one ⟨_, .done _, [], [], ?_⟩)
  clear hj
  try simp only [go_sem]
theorem s_l33Frame_ok (a0 : Int) (a1 : List Int) (r : (List Int)) (h : s_l33Frame a0 a1 = some r) : AC Try.prog 91 [.int .i64 a0, .ro (List.map u8D a1)] (.ow (some 1) (List.map u8D r)) := by
  unfold s_l33Frame at h
  refine ac_fn mixed Try.func91 rfl rfl rfl (by kernel_rfl) (by kernel_rfl) ?_
  try simp only [go_sem]
  replace h := bindE h
  obtain ⟨v2004, hv2004, h⟩ := h
  have hq_ := app_some hv2004
  obtain ⟨hv2004a, hv2004b⟩ := hq_
  refine and_i (flat_rows_of (by intro x; exact ⟨rfl, by simp [go_sem, D.flat]⟩) _) ?_
  try simp only [go_sem]
  refine and_i (by refine ⟨?_, ?_⟩ <;> (try simp only [List.length_map, List.length_append, List.length_cons, List.length_nil] at *) <;> (try unfold maxLen) <;> omega) ?_
  try simp only [go_sem]
  refine row_i (List.map u8D v2004) (by rw [← hv2004b]; simp only [List.map_append, List.map_cons, List.map_nil, List.nil_append, List.append_nil, go_sem, slD]) ?_
  try simp only [go_sem]
  replace h := bindE h
  obtain ⟨v3001, hv3001, h⟩ := h
  refine call_i (s_l33Sum_ok _ _ hv3001) ?_
  try simp only [go_sem]
  refine and_i (by decide) ?_
  try simp only [go_sem]
  refine and_i (by decide) ?_
  try simp only [go_sem]
  refine and_i (by decide) ?_
  try simp only [go_sem]
  replace h := bindE h
  obtain ⟨v4013, hv4013, h⟩ := h
  have hq_ := app_some hv4013
  obtain ⟨hv4013a, hv4013b⟩ := hq_
  refine and_i (by refine ⟨?_, ?_⟩ <;> (try simp only [List.length_map, List.length_append, List.length_cons, List.length_nil] at *) <;> (try unfold maxLen) <;> omega) ?_
  try simp only [go_sem]
  refine row_i (List.map u8D v4013) (by rw [← hv4013b]; simp only [List.map_append, List.map_cons, List.map_nil, List.nil_append, List.append_nil, go_sem, slD]) ?_
  try simp only [go_sem]
  replace h := Option.some.inj h
  obtain rfl := h
  simp only [go_sem]
theorem s_l33Close_ok (a0 : Int) (a1 : List Int) (r : (List Int) × Int) (h : s_l33Close a0 a1 = some r) : AC Try.prog 45 [.int .i64 a0, .ro (List.map u8D a1)] (.tup [.ow (some 1) (List.map u8D r.1), .int .i64 r.2]) := by
  unfold s_l33Close at h
  refine ac_fn mixed Try.func45 rfl rfl rfl (by kernel_rfl) (by kernel_rfl) ?_
  try simp only [go_sem]
  refine cond_i (fun hb1 => ?_) (fun hb1 => ?_)
  · replace h := ifT (c := (decide (60000 < (IntKind.i64.wrap (((List.length a1 : Nat) : Int) + 10))))) hb1 h
    try simp only [go_sem]
    replace h := Option.some.inj h
    obtain rfl := h
    simp only [go_sem]
  · replace h := ifF (c := (decide (60000 < (IntKind.i64.wrap (((List.length a1 : Nat) : Int) + 10))))) hb1 h
    try simp only [go_sem]
    refine seq_go ?_
    try simp only [go_sem]
    replace h := bindE h
    obtain ⟨v4002, hv4002, h⟩ := h
    refine call_i (s_l33Frame_ok _ _ _ hv4002) ?_
    try simp only [go_sem]
    replace h := Option.some.inj h
    obtain rfl := h
    simp only [go_sem]
theorem i_frameHead_ok  (r : (List Int)) (h : i_frameHead  = some r) : AG Try.prog 101 [] [] [] (.own 1501) [(1501, ⟨List.map u8D r, some 1, 0⟩)] [] := by
  unfold i_frameHead at h
  refine ag_fn mixed Try.func101 rfl rfl rfl (by kernel_rfl) (by kernel_rfl) ?_
  try simp only [go_sem]
  replace h := Option.some.inj h
  obtain rfl := h
  refine ret_i (.lit 0 2000000000 2000 5 1 [] _ _ (by (first | rfl | (simp only [go_sem]; rfl))) (by simp only [go_sem]; rfl) (by (first | rfl | (simp only [go_sem]; rfl))) (by (first | rfl | (simp only [go_sem]; rfl))) (by decide) (by decide) (by simp only [go_sem]) (.done _)) [(1501, 2000000000)] [] ?_
  simp only [go_sem]
  all_goals try rfl
theorem i_ChecksumOf_l3_all (n : Nat) : (∀ (a0 : List Int) (p0_0 : Int) (p0_1 : Int) (r : Int), i_ChecksumOf_l3 n a0 p0_0 p0_1 = some r → posF Try.prog Try.f102 [1, 1, 0, 1, 0] (.int .i64 r) ⟨[(3, .int .u32 p0_0), (7, .ro (List.map u8D a0)), (8, .int .i64 ((List.length a0 : Nat) : Int)), (9, .int .i64 p0_1)], [], []⟩) ∧
    (∀ (a0 : List Int) (p0_1 : Int) (p1_0 : Int) (p1_1 : Int) (r : Int), i_ChecksumOf_l4 n a0 p0_1 p1_0 p1_1 = some r → posF Try.prog Try.f102 [1, 1, 0, 1, 0, 0, 1, 1, 0, 0, 1, 1, 1, 0] (.int .i64 r) ⟨[(3, .int .u32 p1_0), (7, .ro (List.map u8D a0)), (8, .int .i64 ((List.length a0 : Nat) : Int)), (9, .int .i64 p0_1), (17, .int .i64 p1_1)], [], []⟩) := by
  induction n with
  | zero => exact ⟨(fun _ _ _ _ h => by rw [i_ChecksumOf_l3] at h; cases h), (fun _ _ _ _ _ h => by rw [i_ChecksumOf_l4] at h; cases h)⟩
  | succ n ih =>
    obtain ⟨ih0, ih1⟩ := ih
    refine ⟨?_, ?_⟩
    · intro a0 p0_0 p0_1 r h
      rw [i_ChecksumOf_l3] at h
      refine posF_of rfl rfl ?_
      try simp only [go_sem]
      refine loop_i ?_
      try simp only [go_sem]
      refine cond_i (fun hb1 => ?_) (fun hb1 => ?_)
      · replace h := ifT (c := (decide (p0_1 < ((List.length a0 : Nat) : Int)))) hb1 h
        try simp only [go_sem]
        refine seq_go ?_
        try simp only [go_sem]
        replace h := bindE h
        obtain ⟨v5000, hv5000, h⟩ := h
        refine idx_m hv5000 rfl ?_
        try simp only [go_sem]
        have hj := posF_to rfl rfl (ih1 a0 p0_1 (bits BinOp.xor IntKind.u32 p0_0 (IntKind.u32.wrap v5000)) 0 _ h)
        refine loop_to hj (.one ⟨_, .done _, [], [], ?_⟩)
        clear hj
        try simp only [go_sem]
      · replace h := ifF (c := (decide (p0_1 < ((List.length a0 : Nat) : Int)))) hb1 h
        try simp only [go_sem]
        refine seq_go ?_
        try simp only [go_sem]
        replace h := Option.some.inj h
        obtain rfl := h
        simp only [go_sem]
    · intro a0 p0_1 p1_0 p1_1 r h
      rw [i_ChecksumOf_l4] at h
      refine posF_of rfl rfl ?_
      try simp only [go_sem]
      refine loop_i ?_
      try simp only [go_sem]
      refine cond_i (fun hb2 => ?_) (fun hb2 => ?_)
      · replace h := ifT (c := (decide (p1_1 < 8))) hb2 h
        try simp only [go_sem]
        refine seq_go ?_
        try simp only [go_sem]
        refine and_i (by decide) ?_
        try simp only [go_sem]
        refine cond_i (fun hb3 => ?_) (fun hb3 => ?_)
        · replace h := ifT (c := (decide ((bits BinOp.and IntKind.u32 p1_0 1) = 1))) hb3 h
          try simp only [go_sem]
          refine seq_go ?_
          try simp only [go_sem]
          have hj := posF_to rfl rfl (ih1 a0 p0_1 (bits BinOp.xor IntKind.u32 (p1_0 / 2 ^ min (Int.toNat 1) (IntKind.bits IntKind.u32)) 3988292384) (IntKind.i64.wrap (p1_1 + 1)) _ h)
          refine lp_to hj (.one ⟨_, .done _, [], [], ?_⟩)
          clear hj
          try simp only [go_sem]
        · replace h := ifF (c := (decide ((bits BinOp.and IntKind.u32 p1_0 1) = 1))) hb3 h
          try simp only [go_sem]
          refine seq_go ?_
          try simp only [go_sem]
          have hj := posF_to rfl rfl (ih1 a0 p0_1 (p1_0 / 2 ^ min (Int.toNat 1) (IntKind.bits IntKind.u32)) (IntKind.i64.wrap (p1_1 + 1)) _ h)
          refine lp_to hj (.one ⟨_, .done _, [], [], ?_⟩)
          clear hj
          try simp only [go_sem]
      · replace h := ifF (c := (decide (p1_1 < 8))) hb2 h
        try simp only [go_sem]
        refine seq_go ?_
        try simp only [go_sem]
        have hj := posF_to rfl rfl (ih0 a0 p1_0 (IntKind.i64.wrap (p0_1 + 1)) _ h)
        refine lp_to hj (.one ⟨_, .done _, [], [], ?_⟩)
        clear hj
        try simp only [go_sem]
theorem i_ChecksumOf_l3_ok (n : Nat) : (∀ (a0 : List Int) (p0_0 : Int) (p0_1 : Int) (r : Int), i_ChecksumOf_l3 n a0 p0_0 p0_1 = some r → posF Try.prog Try.f102 [1, 1, 0, 1, 0] (.int .i64 r) ⟨[(3, .int .u32 p0_0), (7, .ro (List.map u8D a0)), (8, .int .i64 ((List.length a0 : Nat) : Int)), (9, .int .i64 p0_1)], [], []⟩) := (i_ChecksumOf_l3_all n).1
theorem i_ChecksumOf_l4_ok (n : Nat) : (∀ (a0 : List Int) (p0_1 : Int) (p1_0 : Int) (p1_1 : Int) (r : Int), i_ChecksumOf_l4 n a0 p0_1 p1_0 p1_1 = some r → posF Try.prog Try.f102 [1, 1, 0, 1, 0, 0, 1, 1, 0, 0, 1, 1, 1, 0] (.int .i64 r) ⟨[(3, .int .u32 p1_0), (7, .ro (List.map u8D a0)), (8, .int .i64 ((List.length a0 : Nat) : Int)), (9, .int .i64 p0_1), (17, .int .i64 p1_1)], [], []⟩) := (i_ChecksumOf_l3_all n).2

theorem i_ChecksumOf_ok (a0 : List Int) (r : Int) (h : i_ChecksumOf a0 = some r) : AC Try.prog 102 [.ro (List.map u8D a0)] (.int .i64 r) := by
  unfold i_ChecksumOf at h
  refine ac_fn mixed Try.func102 rfl rfl rfl (by kernel_rfl) (by kernel_rfl) ?_
  try simp only [go_sem]
  have hj := posF_to rfl rfl (i_ChecksumOf_l3_ok fuel a0 4294967295 0 _ h)
  refine loop_to hj (.one ⟨_, .done _, [], [], ?_⟩)
  clear hj
  try simp only [go_sem]
theorem i_framed_l2_all (n : Nat) : (∀ (p1_0 : List Int) (p1_1 : Int) (p1_2 : Int) (r : (List Int) × Int), i_framed_l2 n p1_0 p1_1 p1_2 = some r → posF Try.prog Try.f49 [1, 1, 1, 0, 1, 0] (.tup [.ow (some 1) (List.map u8D r.1), .int .i64 r.2]) ⟨[(6, .own 1000001000), (7, .int .i64 p1_1), (16, .int .i64 p1_2)], [(1000001000, some ⟨List.map u8D p1_0, some 1, 0⟩)], []⟩) := by
  induction n with
  | zero => exact ((fun _ _ _ _ h => by rw [i_framed_l2] at h; cases h))
  | succ n ih =>
    have ih0 := ih
    · intro p1_0 p1_1 p1_2 r h
      rw [i_framed_l2] at h
      refine posF_of rfl rfl ?_
      try simp only [go_sem]
      refine loop_i ?_
      try simp only [go_sem]
      refine cond_i (fun hb1 => ?_) (fun hb1 => ?_)
      · replace h := ifT (c := (decide (p1_2 < 4))) hb1 h
        try simp only [go_sem]
        refine seq_go ?_
        try simp only [go_sem]
        refine and_i (by decide) ?_
        try simp only [go_sem]
        replace h := bindE h
        obtain ⟨v6005, hv6005, h⟩ := h
        have hq_ := app_some hv6005
        obtain ⟨hv6005a, hv6005b⟩ := hq_
        refine and_i (by refine ⟨?_, ?_⟩ <;> (try simp only [List.length_map, List.length_append, List.length_cons, List.length_nil] at *) <;> (try unfold maxLen) <;> omega) ?_
        try simp only [go_sem]
        refine row_i (List.map u8D v6005) (by rw [← hv6005b]; simp only [List.map_append, List.map_cons, List.map_nil, List.nil_append, List.append_nil, go_sem, slD]) ?_
        try simp only [go_sem]
        refine and_i (by decide) ?_
        try simp only [go_sem]
        refine seq_go ?_
        try simp only [go_sem]
        have hj := posF_to rfl rfl (ih0 v6005 (IntKind.i64.wrap (Int.tdiv p1_1 256)) (IntKind.i64.wrap (p1_2 + 1)) _ h)
        refine lp_to hj (.one ⟨_, .done _, [(1000001000, 96080)], [], ?_⟩)
        clear hj
        try simp only [go_sem]
      · replace h := ifF (c := (decide (p1_2 < 4))) hb1 h
        try simp only [go_sem]
        refine seq_go ?_
        try simp only [go_sem]
        refine cond_i (fun hb2 => ?_) (fun hb2 => ?_)
        · replace h := ifT (c := (decide (60000 < ((List.length p1_0 : Nat) : Int)))) hb2 h
          try simp only [go_sem]
          replace h := Option.some.inj h
          obtain rfl := h
          simp only [go_sem]
        · replace h := ifF (c := (decide (60000 < ((List.length p1_0 : Nat) : Int)))) hb2 h
          try simp only [go_sem]
          refine seq_go ?_
          try simp only [go_sem]
          replace h := Option.some.inj h
          obtain rfl := h
          simp only [go_sem]
theorem i_framed_l2_ok (n : Nat) : (∀ (p1_0 : List Int) (p1_1 : Int) (p1_2 : Int) (r : (List Int) × Int), i_framed_l2 n p1_0 p1_1 p1_2 = some r → posF Try.prog Try.f49 [1, 1, 1, 0, 1, 0] (.tup [.ow (some 1) (List.map u8D r.1), .int .i64 r.2]) ⟨[(6, .own 1000001000), (7, .int .i64 p1_1), (16, .int .i64 p1_2)], [(1000001000, some ⟨List.map u8D p1_0, some 1, 0⟩)], []⟩) := (i_framed_l2_all n)

theorem i_framed_ok (a0 : Int) (a1 : List Int) (r : (List Int) × Int) (h : i_framed a0 a1 = some r) : AC Try.prog 49 [.int .u8 a0, .ro (List.map u8D a1)] (.tup [.ow (some 1) (List.map u8D r.1), .int .i64 r.2]) := by
  unfold i_framed at h
  refine ac_fn mixed Try.func49 rfl rfl rfl (by kernel_rfl) (by kernel_rfl) ?_
  try simp only [go_sem]
  replace h := bindE h
  obtain ⟨v2000, hv2000, h⟩ := h
  refine call_g ⟨[], [], [], [(1501, 32000)], [], true⟩ (by kernel_rfl) (i_frameHead_ok  _ hv2000) (by kernel_rfl) ?_
  try simp only [go_sem]
  replace h := bindE h
  obtain ⟨v2003, hv2003, h⟩ := h
  have hq_ := app_some hv2003
  obtain ⟨hv2003a, hv2003b⟩ := hq_
  refine and_i (by refine ⟨?_, ?_⟩ <;> (try simp only [List.length_map, List.length_append, List.length_cons, List.length_nil] at *) <;> (try unfold maxLen) <;> omega) ?_
  try simp only [go_sem]
  refine row_i (List.map u8D v2003) (by rw [← hv2003b]; simp only [List.map_append, List.map_cons, List.map_nil, List.nil_append, List.append_nil, go_sem, slD]) ?_
  try simp only [go_sem]
  replace h := bindE h
  obtain ⟨v2005, hv2005, h⟩ := h
  have hq_ := app_some hv2005
  obtain ⟨hv2005a, hv2005b⟩ := hq_
  refine and_i (flat_rows_of (by intro x; exact ⟨rfl, by simp [go_sem, D.flat]⟩) _) ?_
  try simp only [go_sem]
  refine and_i (by refine ⟨?_, ?_⟩ <;> (try simp only [List.length_map, List.length_append, List.length_cons, List.length_nil] at *) <;> (try unfold maxLen) <;> omega) ?_
  try simp only [go_sem]
  refine row_i (List.map u8D v2005) (by rw [← hv2005b]; simp only [List.map_append, List.map_cons, List.map_nil, List.nil_append, List.append_nil, go_sem, slD]) ?_
  try simp only [go_sem]
  replace h := bindE h
  obtain ⟨v3001, hv3001, h⟩ := h
  refine call_i (i_ChecksumOf_ok _ _ hv3001) ?_
  try simp only [go_sem]
  have hj := posF_to rfl rfl (i_framed_l2_ok fuel v2005 v3001 0 _ h)
  refine loop_to hj (.one ⟨_, .done _, [(1000001000, 32080)], [], ?_⟩)
  clear hj
  try simp only [go_sem]
theorem l_eqByteS_l1_all (n : Nat) : (∀ (a0 : List Int) (a1 : List Int) (p0_0 : Int) (r : Bool), l_eqByteS_l1 n a0 a1 p0_0 = some r → posF Try.prog Try.f12 [1, 1, 0, 1, 0] (.bool r) ⟨[(0, .ro (List.map u8D a0)), (1, .ro (List.map u8D a1)), (5, .int .i64 p0_0)], [], []⟩) := by
  induction n with
  | zero => exact ((fun _ _ _ _ h => by rw [l_eqByteS_l1] at h; cases h))
  | succ n ih =>
    have ih0 := ih
    · intro a0 a1 p0_0 r h
      rw [l_eqByteS_l1] at h
      refine posF_of rfl rfl ?_
      try simp only [go_sem]
      refine loop_i ?_
      try simp only [go_sem]
      refine cond_i (fun hb2 => ?_) (fun hb2 => ?_)
      · replace h := ifT (c := (decide (p0_0 < ((List.length a0 : Nat) : Int)))) hb2 h
        try simp only [go_sem]
        refine seq_go ?_
        try simp only [go_sem]
        refine draw_i [] .fin (by kernel_rfl) ?_
        try simp only [go_sem]
        replace h := bindE h
        obtain ⟨v7002, hv7002, h⟩ := h
        refine idx_m hv7002 rfl ?_
        try simp only [go_sem]
        replace h := bindE h
        obtain ⟨v7006, hv7006, h⟩ := h
        refine idx_m hv7006 rfl ?_
        try simp only [go_sem]
        refine seq_go ?_
        try simp only [go_sem]
        refine cond_i (fun hb3 => ?_) (fun hb3 => ?_)
        · replace h := ifT (c := (!decide (v7002 = v7006))) hb3 h
          try simp only [go_sem]
          replace h := Option.some.inj h
          obtain rfl := h
          simp only [go_sem]
        · replace h := ifF (c := (!decide (v7002 = v7006))) hb3 h
          try simp only [go_sem]
          refine seq_go ?_
          try simp only [go_sem]
          have hj := posF_to rfl rfl (ih0 a0 a1 (IntKind.i64.wrap (p0_0 + 1)) _ h)
          refine lp_to hj (.one ⟨_, .done _, [], [], ?_⟩)
          clear hj
          try simp only [go_sem]
      · replace h := ifF (c := (decide (p0_0 < ((List.length a0 : Nat) : Int)))) hb2 h
        try simp only [go_sem]
        refine seq_go ?_
        try simp only [go_sem]
        replace h := Option.some.inj h
        obtain rfl := h
        simp only [go_sem]
theorem l_eqByteS_l1_ok (n : Nat) : (∀ (a0 : List Int) (a1 : List Int) (p0_0 : Int) (r : Bool), l_eqByteS_l1 n a0 a1 p0_0 = some r → posF Try.prog Try.f12 [1, 1, 0, 1, 0] (.bool r) ⟨[(0, .ro (List.map u8D a0)), (1, .ro (List.map u8D a1)), (5, .int .i64 p0_0)], [], []⟩) := (l_eqByteS_l1_all n)

theorem l_eqByteS_ok (a0 : List Int) (a1 : List Int) (r : Bool) (h : l_eqByteS a0 a1 = some r) : AC Try.prog 12 [.ro (List.map u8D a0), .ro (List.map u8D a1)] (.bool r) := by
  unfold l_eqByteS at h
  refine ac_fn mixed Try.func12 rfl rfl rfl (by kernel_rfl) (by kernel_rfl) ?_
  try simp only [go_sem]
  refine cond_i (fun hb1 => ?_) (fun hb1 => ?_)
  · replace h := ifT (c := (!decide (((List.length a0 : Nat) : Int) = ((List.length a1 : Nat) : Int)))) hb1 h
    try simp only [go_sem]
    replace h := Option.some.inj h
    obtain rfl := h
    simp only [go_sem]
  · replace h := ifF (c := (!decide (((List.length a0 : Nat) : Int) = ((List.length a1 : Nat) : Int)))) hb1 h
    try simp only [go_sem]
    refine seq_go ?_
    try simp only [go_sem]
    have hj := posF_to rfl rfl (l_eqByteS_l1_ok fuel a0 a1 0 _ h)
    refine loop_to hj (.one ⟨_, .done _, [], [], ?_⟩)
    clear hj
    try simp only [go_sem]
theorem l_markByteS_l1_all (n : Nat) : (∀ (p0_0 : List Int) (p0_1 : Int) (p0_2 : Int) (z1 : Option Nat) (r : Int × (List Int)), l_markByteS_l1 n p0_0 p0_1 p0_2 = some r → posG Try.prog Try.f15 [1, 0, 1, 0] (.int .i64 r.1) [(1, ⟨List.map u8D r.2, z1, 0⟩)] [] ⟨[(0, .own 1), (1, .int .i64 p0_1), (5, .int .i64 p0_2)], [(1, some ⟨List.map u8D p0_0, z1, 0⟩)], []⟩) := by
  induction n with
  | zero => exact ((fun _ _ _ _ _ h => by rw [l_markByteS_l1] at h; cases h))
  | succ n ih =>
    have ih0 := ih
    · intro p0_0 p0_1 p0_2 z1 r h
      rw [l_markByteS_l1] at h
      refine posG_of rfl rfl ?_
      try simp only [go_sem]
      refine loop_i ?_
      try simp only [go_sem]
      refine cond_i (fun hb1 => ?_) (fun hb1 => ?_)
      · replace h := ifT (c := (decide (p0_2 < ((List.length p0_0 : Nat) : Int)))) hb1 h
        try simp only [go_sem]
        refine seq_go ?_
        try simp only [go_sem]
        replace h := bindE h
        obtain ⟨v5004, hv5004, h⟩ := h
        refine idx_m hv5004 rfl ?_
        try simp only [go_sem]
        replace h := bindE h
        obtain ⟨v5005_8, hv5005_8, h⟩ := h
        refine opt_i (row_m hv5004) ?_
        try simp only [go_sem]
        refine row_i (List.map u8D v5005_8) (by rw [← set1_some hv5005_8]; simp only [List.map_set, go_sem, slD]) ?_
        try simp only [go_sem]
        refine seq_go ?_
        try simp only [go_sem]
        have hj := posG_to rfl rfl (ih0 v5005_8 (IntKind.i64.wrap (p0_1 + 1)) (IntKind.i64.wrap (p0_2 + 1)) z1 _ h)
        refine lp_to hj (.one ⟨_, .done _, [(1, 1)], [], ?_⟩)
        clear hj
        try simp only [go_sem]
      · replace h := ifF (c := (decide (p0_2 < ((List.length p0_0 : Nat) : Int)))) hb1 h
        try simp only [go_sem]
        refine seq_go ?_
        try simp only [go_sem]
        replace h := Option.some.inj h
        obtain rfl := h
        refine ret_i (.done _) [(1, 1)] [] ?_
        simp only [go_sem]
theorem l_markByteS_l1_ok (n : Nat) : (∀ (p0_0 : List Int) (p0_1 : Int) (p0_2 : Int) (z1 : Option Nat) (r : Int × (List Int)), l_markByteS_l1 n p0_0 p0_1 p0_2 = some r → posG Try.prog Try.f15 [1, 0, 1, 0] (.int .i64 r.1) [(1, ⟨List.map u8D r.2, z1, 0⟩)] [] ⟨[(0, .own 1), (1, .int .i64 p0_1), (5, .int .i64 p0_2)], [(1, some ⟨List.map u8D p0_0, z1, 0⟩)], []⟩) := (l_markByteS_l1_all n)

theorem l_markByteS_ok (a0 : List Int) (a1 : Int) (z1 : Option Nat) (r : Int × (List Int)) (h : l_markByteS a0 a1 = some r) : AG Try.prog 15 [.own 1, .int .i64 a1] [(1, ⟨List.map u8D a0, z1, 0⟩)] [] (.int .i64 r.1) [(1, ⟨List.map u8D r.2, z1, 0⟩)] [] := by
  unfold l_markByteS at h
  refine ag_fn mixed Try.func15 rfl rfl rfl (by kernel_rfl) (by kernel_rfl) ?_
  try simp only [go_sem]
  have hj := posG_to rfl rfl (l_markByteS_l1_ok fuel a0 a1 0 z1 _ h)
  refine loop_to hj (.one ⟨_, .done _, [(1, 1)], [], ?_⟩)
  clear hj
  try simp only [go_sem]
theorem l_heldByteS_l1_all (n : Nat) : (∀ (a0 : List Int) (p0_0 : Int) (p0_1 : Int) (r : Int), l_heldByteS_l1 n a0 p0_0 p0_1 = some r → posF Try.prog Try.f16 [1, 0, 1, 0] (.int .i64 r) ⟨[(0, .ro (List.map u8D a0)), (1, .int .i64 p0_0), (5, .int .i64 p0_1)], [], []⟩) := by
  induction n with
  | zero => exact ((fun _ _ _ _ h => by rw [l_heldByteS_l1] at h; cases h))
  | succ n ih =>
    have ih0 := ih
    · intro a0 p0_0 p0_1 r h
      rw [l_heldByteS_l1] at h
      refine posF_of rfl rfl ?_
      try simp only [go_sem]
      refine loop_i ?_
      try simp only [go_sem]
      refine cond_i (fun hb1 => ?_) (fun hb1 => ?_)
      · replace h := ifT (c := (decide (p0_1 < ((List.length a0 : Nat) : Int)))) hb1 h
        try simp only [go_sem]
        refine seq_go ?_
        try simp only [go_sem]
        replace h := bindE h
        obtain ⟨v5002, hv5002, h⟩ := h
        refine idx_m hv5002 rfl ?_
        try simp only [go_sem]
        refine cond_i (fun hb2 => ?_) (fun hb2 => ?_)
        · replace h := ifT (c := (!decide (v5002 = (IntKind.u8.wrap p0_0)))) hb2 h
          try simp only [go_sem]
          replace h := Option.some.inj h
          obtain rfl := h
          simp only [go_sem]
        · replace h := ifF (c := (!decide (v5002 = (IntKind.u8.wrap p0_0)))) hb2 h
          try simp only [go_sem]
          refine seq_go ?_
          try simp only [go_sem]
          refine seq_go ?_
          try simp only [go_sem]
          have hj := posF_to rfl rfl (ih0 a0 (IntKind.i64.wrap (p0_0 + 1)) (IntKind.i64.wrap (p0_1 + 1)) _ h)
          refine lp_to hj (.one ⟨_, .done _, [], [], ?_⟩)
          clear hj
          try simp only [go_sem]
      · replace h := ifF (c := (decide (p0_1 < ((List.length a0 : Nat) : Int)))) hb1 h
        try simp only [go_sem]
        refine seq_go ?_
        try simp only [go_sem]
        replace h := Option.some.inj h
        obtain rfl := h
        simp only [go_sem]
theorem l_heldByteS_l1_ok (n : Nat) : (∀ (a0 : List Int) (p0_0 : Int) (p0_1 : Int) (r : Int), l_heldByteS_l1 n a0 p0_0 p0_1 = some r → posF Try.prog Try.f16 [1, 0, 1, 0] (.int .i64 r) ⟨[(0, .ro (List.map u8D a0)), (1, .int .i64 p0_0), (5, .int .i64 p0_1)], [], []⟩) := (l_heldByteS_l1_all n)

theorem l_heldByteS_ok (a0 : List Int) (a1 : Int) (r : Int) (h : l_heldByteS a0 a1 = some r) : AC Try.prog 16 [.ro (List.map u8D a0), .int .i64 a1] (.int .i64 r) := by
  unfold l_heldByteS at h
  refine ac_fn mixed Try.func16 rfl rfl rfl (by kernel_rfl) (by kernel_rfl) ?_
  try simp only [go_sem]
  have hj := posF_to rfl rfl (l_heldByteS_l1_ok fuel a0 a1 0 _ h)
  refine loop_to hj (.one ⟨_, .done _, [], [], ?_⟩)
  clear hj
  try simp only [go_sem]
end Go.Proofs.Ytocpkbclcnjejaa.Ab
