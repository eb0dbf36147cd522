/-
  The functions do what their models say. Printed by wip/ab/gen.py.
-/
import Derived.Test.YtffokcfdkkikmaaWlkVA
namespace Go.Proofs.Ytffokcfdkkikmaa.Ab
set_option linter.unusedVariables false
set_option linter.unusedSimpArgs false
set_option maxRecDepth 20000
set_option maxHeartbeats 4000000
open Go.RowKit
theorem g_Equal_sint64_l1_all (n : Nat) : (∀ (a0 : List Int) (a1 : List Int) (p0_0 : Int) (r : Bool), g_Equal_sint64_l1 n a0 a1 p0_0 = some r → posF Try.prog Try.f93 [1, 1, 0, 1, 0] (.bool r) ⟨[(0, .ro (List.map i64D a0)), (1, .ro (List.map i64D a1)), (12, .int .i64 ((List.length a0 : Nat) : Int)), (13, .int .i64 p0_0)], [], []⟩) := by
  induction n with
  | zero => exact ((fun _ _ _ _ h => by rw [g_Equal_sint64_l1] at h; cases h))
  | succ n ih =>
    have ih0 := ih
    · intro a0 a1 p0_0 r h
      rw [g_Equal_sint64_l1] at h
      refine posF_of rfl rfl ?_
      try simp only [go_sem]
      refine loop_i ?_
      try simp only [go_sem]
      refine cond_i (fun hb2 => ?_) (fun hb2 => ?_)
      · replace h := ifT (c := (decide (p0_0 < ((List.length a0 : Nat) : Int)))) hb2 h
        try simp only [go_sem]
        refine seq_go ?_
        try simp only [go_sem]
        refine draw_i [] .fin (by kernel_rfl) ?_
        try simp only [go_sem]
        replace h := bindE h
        obtain ⟨v7002, hv7002, h⟩ := h
        refine idx_m hv7002 rfl ?_
        try simp only [go_sem]
        replace h := bindE h
        obtain ⟨v7006, hv7006, h⟩ := h
        refine idx_m hv7006 rfl ?_
        try simp only [go_sem]
        refine seq_go ?_
        try simp only [go_sem]
        refine cond_i (fun hb3 => ?_) (fun hb3 => ?_)
        · replace h := ifT (c := (!decide (v7002 = v7006))) hb3 h
          try simp only [go_sem]
          replace h := Option.some.inj h
          obtain rfl := h
          simp only [go_sem]
        · replace h := ifF (c := (!decide (v7002 = v7006))) hb3 h
          try simp only [go_sem]
          refine seq_go ?_
          try simp only [go_sem]
          have hj := posF_to rfl rfl (ih0 a0 a1 (IntKind.i64.wrap (p0_0 + 1)) _ h)
          refine lp_to hj (.one ⟨_, .done _, [], [], ?_⟩)
          clear hj
          try simp only [go_sem]
      · replace h := ifF (c := (decide (p0_0 < ((List.length a0 : Nat) : Int)))) hb2 h
        try simp only [go_sem]
        refine seq_go ?_
        try simp only [go_sem]
        replace h := Option.some.inj h
        obtain rfl := h
        simp only [go_sem]
theorem g_Equal_sint64_l1_ok (n : Nat) : (∀ (a0 : List Int) (a1 : List Int) (p0_0 : Int) (r : Bool), g_Equal_sint64_l1 n a0 a1 p0_0 = some r → posF Try.prog Try.f93 [1, 1, 0, 1, 0] (.bool r) ⟨[(0, .ro (List.map i64D a0)), (1, .ro (List.map i64D a1)), (12, .int .i64 ((List.length a0 : Nat) : Int)), (13, .int .i64 p0_0)], [], []⟩) := (g_Equal_sint64_l1_all n)

theorem g_Equal_sint64_ok (a0 : List Int) (a1 : List Int) (r : Bool) (h : g_Equal_sint64 a0 a1 = some r) : AC Try.prog 93 [.ro (List.map i64D a0), .ro (List.map i64D a1)] (.bool r) := by
  unfold g_Equal_sint64 at h
  refine ac_fn mixed Try.func93 rfl rfl rfl (by kernel_rfl) (by kernel_rfl) ?_
  try simp only [go_sem]
  refine cond_i (fun hb1 => ?_) (fun hb1 => ?_)
  · replace h := ifT (c := (!decide (((List.length a0 : Nat) : Int) = ((List.length a1 : Nat) : Int)))) hb1 h
    try simp only [go_sem]
    replace h := Option.some.inj h
    obtain rfl := h
    simp only [go_sem]
  · replace h := ifF (c := (!decide (((List.length a0 : Nat) : Int) = ((List.length a1 : Nat) : Int)))) hb1 h
    try simp only [go_sem]
    refine seq_go ?_
    try simp only [go_sem]
    have hj := posF_to rfl rfl (g_Equal_sint64_l1_ok fuel a0 a1 0 _ h)
    refine loop_to hj (.one ⟨_, .done _, [], [], ?_⟩)
    clear hj
    try simp only [go_sem]
theorem g_EqualFunc_simpl_Shard_l1_all (n : Nat) : (∀ (a0 : List Shard) (a1 : List Shard) (p0_0 : Int) (f2 : (Shard → Shard → Option Bool)) (g2 : FuncId) (c2 : List AV) (s2 : Still c2) (h2 : ∀ (y0 : Shard) (y1 : Shard) (q : Bool), f2 y0 y1 = some q → AC Try.prog g2 (.agg (Shard.avs y0) :: .agg (Shard.avs y1) :: c2) (.bool q)) (r : Bool), g_EqualFunc_simpl_Shard_l1 n a0 a1 p0_0 f2 = some r → posF Try.prog Try.f255 [1, 1, 0, 1, 0] (.bool r) ⟨[(1, .ro (List.map Shard.ds a1)), (2, .fn g2 c2), (15, .ro (List.map Shard.ds a0)), (16, .int .i64 ((List.length a0 : Nat) : Int)), (17, .int .i64 p0_0)], [], []⟩) := by
  induction n with
  | zero => exact ((fun _ _ _ _ _ _ _ _ _ h => by rw [g_EqualFunc_simpl_Shard_l1] at h; cases h))
  | succ n ih =>
    have ih0 := ih
    · intro a0 a1 p0_0 f2 g2 c2 s2 h2 r h
      rw [g_EqualFunc_simpl_Shard_l1] at h
      refine posF_of rfl rfl ?_
      try simp only [go_sem, s2.k, s2.r, s2.c, s2.p]
      refine loop_i ?_
      try simp only [go_sem, s2.k, s2.r, s2.c, s2.p]
      refine cond_i (fun hb2 => ?_) (fun hb2 => ?_)
      · replace h := ifT (c := (decide (p0_0 < ((List.length a0 : Nat) : Int)))) hb2 h
        try simp only [go_sem, s2.k, s2.r, s2.c, s2.p]
        refine seq_go ?_
        try simp only [go_sem, s2.k, s2.r, s2.c, s2.p]
        replace h := bindE h
        obtain ⟨v6001, hv6001, h⟩ := h
        refine idx_m hv6001 (Shard.ds_len _) ?_
        try simp only [go_sem, s2.k, s2.r, s2.c, s2.p]
        replace h := bindE h
        obtain ⟨v7002, hv7002, h⟩ := h
        refine idx_m hv7002 (Shard.ds_len _) ?_
        try simp only [go_sem, s2.k, s2.r, s2.c, s2.p]
        replace h := bindE h
        obtain ⟨v8003, hv8003, h⟩ := h
        refine call_i (h2 _ _ _ hv8003) ?_
        try simp only [go_sem, s2.k, s2.r, s2.c, s2.p]
        refine cond_i (fun hb3 => ?_) (fun hb3 => ?_)
        · replace h := ifT (c := (!v8003)) hb3 h
          try simp only [go_sem, s2.k, s2.r, s2.c, s2.p]
          replace h := Option.some.inj h
          obtain rfl := h
          simp only [go_sem, s2.k, s2.r, s2.c, s2.p]
        · replace h := ifF (c := (!v8003)) hb3 h
          try simp only [go_sem, s2.k, s2.r, s2.c, s2.p]
          refine seq_go ?_
          try simp only [go_sem, s2.k, s2.r, s2.c, s2.p]
          have hj := posF_to rfl rfl (ih0 a0 a1 (IntKind.i64.wrap (p0_0 + 1)) f2 g2 c2 s2 h2 _ h)
          refine lp_to hj (.one ⟨_, .done _, [], [], ?_⟩)
          clear hj
          try simp only [go_sem, s2.k, s2.r, s2.c, s2.p]
      · replace h := ifF (c := (decide (p0_0 < ((List.length a0 : Nat) : Int)))) hb2 h
        try simp only [go_sem, s2.k, s2.r, s2.c, s2.p]
        refine seq_go ?_
        try simp only [go_sem, s2.k, s2.r, s2.c, s2.p]
        replace h := Option.some.inj h
        obtain rfl := h
        simp only [go_sem, s2.k, s2.r, s2.c, s2.p]
theorem g_EqualFunc_simpl_Shard_l1_ok (n : Nat) : (∀ (a0 : List Shard) (a1 : List Shard) (p0_0 : Int) (f2 : (Shard → Shard → Option Bool)) (g2 : FuncId) (c2 : List AV) (s2 : Still c2) (h2 : ∀ (y0 : Shard) (y1 : Shard) (q : Bool), f2 y0 y1 = some q → AC Try.prog g2 (.agg (Shard.avs y0) :: .agg (Shard.avs y1) :: c2) (.bool q)) (r : Bool), g_EqualFunc_simpl_Shard_l1 n a0 a1 p0_0 f2 = some r → posF Try.prog Try.f255 [1, 1, 0, 1, 0] (.bool r) ⟨[(1, .ro (List.map Shard.ds a1)), (2, .fn g2 c2), (15, .ro (List.map Shard.ds a0)), (16, .int .i64 ((List.length a0 : Nat) : Int)), (17, .int .i64 p0_0)], [], []⟩) := (g_EqualFunc_simpl_Shard_l1_all n)

theorem g_EqualFunc_simpl_Shard_ok (a0 : List Shard) (a1 : List Shard) (f2 : (Shard → Shard → Option Bool)) (g2 : FuncId) (c2 : List AV) (s2 : Still c2) (h2 : ∀ (y0 : Shard) (y1 : Shard) (q : Bool), f2 y0 y1 = some q → AC Try.prog g2 (.agg (Shard.avs y0) :: .agg (Shard.avs y1) :: c2) (.bool q)) (r : Bool) (h : g_EqualFunc_simpl_Shard a0 a1 f2 = some r) : AC Try.prog 255 [.ro (List.map Shard.ds a0), .ro (List.map Shard.ds a1), .fn g2 c2] (.bool r) := by
  unfold g_EqualFunc_simpl_Shard at h
  refine ac_fn mixed Try.func255 rfl rfl rfl (by kernel_rfl) (by kernel_rfl) ?_
  try simp only [go_sem, s2.k, s2.r, s2.c, s2.p]
  refine cond_i (fun hb1 => ?_) (fun hb1 => ?_)
  · replace h := ifT (c := (!decide (((List.length a0 : Nat) : Int) = ((List.length a1 : Nat) : Int)))) hb1 h
    try simp only [go_sem, s2.k, s2.r, s2.c, s2.p]
    replace h := Option.some.inj h
    obtain rfl := h
    simp only [go_sem, s2.k, s2.r, s2.c, s2.p]
  · replace h := ifF (c := (!decide (((List.length a0 : Nat) : Int) = ((List.length a1 : Nat) : Int)))) hb1 h
    try simp only [go_sem, s2.k, s2.r, s2.c, s2.p]
    refine seq_go ?_
    try simp only [go_sem, s2.k, s2.r, s2.c, s2.p]
    have hj := posF_to rfl rfl (g_EqualFunc_simpl_Shard_l1_ok fuel a0 a1 0 f2 g2 c2 s2 h2 _ h)
    refine loop_to hj (.one ⟨_, .done _, [], [], ?_⟩)
    clear hj
    try simp only [go_sem, s2.k, s2.r, s2.c, s2.p]
theorem g_EqualFunc_simpl_ShardCell_l1_all (n : Nat) : (∀ (a0 : List ShardCell) (a1 : List ShardCell) (p0_0 : Int) (f2 : (ShardCell → ShardCell → Option Bool)) (g2 : FuncId) (c2 : List AV) (s2 : Still c2) (h2 : ∀ (y0 : ShardCell) (y1 : ShardCell) (q : Bool), f2 y0 y1 = some q → AC Try.prog g2 (.agg (ShardCell.avs y0) :: .agg (ShardCell.avs y1) :: c2) (.bool q)) (r : Bool), g_EqualFunc_simpl_ShardCell_l1 n a0 a1 p0_0 f2 = some r → posF Try.prog Try.f305 [1, 1, 0, 1, 0] (.bool r) ⟨[(1, .ro (List.map ShardCell.ds a1)), (2, .fn g2 c2), (15, .ro (List.map ShardCell.ds a0)), (16, .int .i64 ((List.length a0 : Nat) : Int)), (17, .int .i64 p0_0)], [], []⟩) := by
  induction n with
  | zero => exact ((fun _ _ _ _ _ _ _ _ _ h => by rw [g_EqualFunc_simpl_ShardCell_l1] at h; cases h))
  | succ n ih =>
    have ih0 := ih
    · intro a0 a1 p0_0 f2 g2 c2 s2 h2 r h
      rw [g_EqualFunc_simpl_ShardCell_l1] at h
      refine posF_of rfl rfl ?_
      try simp only [go_sem, s2.k, s2.r, s2.c, s2.p]
      refine loop_i ?_
      try simp only [go_sem, s2.k, s2.r, s2.c, s2.p]
      refine cond_i (fun hb2 => ?_) (fun hb2 => ?_)
      · replace h := ifT (c := (decide (p0_0 < ((List.length a0 : Nat) : Int)))) hb2 h
        try simp only [go_sem, s2.k, s2.r, s2.c, s2.p]
        refine seq_go ?_
        try simp only [go_sem, s2.k, s2.r, s2.c, s2.p]
        replace h := bindE h
        obtain ⟨v6001, hv6001, h⟩ := h
        refine idx_m hv6001 (ShardCell.ds_len _) ?_
        try simp only [go_sem, s2.k, s2.r, s2.c, s2.p]
        replace h := bindE h
        obtain ⟨v7002, hv7002, h⟩ := h
        refine idx_m hv7002 (ShardCell.ds_len _) ?_
        try simp only [go_sem, s2.k, s2.r, s2.c, s2.p]
        replace h := bindE h
        obtain ⟨v8003, hv8003, h⟩ := h
        refine call_i (h2 _ _ _ hv8003) ?_
        try simp only [go_sem, s2.k, s2.r, s2.c, s2.p]
        refine cond_i (fun hb3 => ?_) (fun hb3 => ?_)
        · replace h := ifT (c := (!v8003)) hb3 h
          try simp only [go_sem, s2.k, s2.r, s2.c, s2.p]
          replace h := Option.some.inj h
          obtain rfl := h
          simp only [go_sem, s2.k, s2.r, s2.c, s2.p]
        · replace h := ifF (c := (!v8003)) hb3 h
          try simp only [go_sem, s2.k, s2.r, s2.c, s2.p]
          refine seq_go ?_
          try simp only [go_sem, s2.k, s2.r, s2.c, s2.p]
          have hj := posF_to rfl rfl (ih0 a0 a1 (IntKind.i64.wrap (p0_0 + 1)) f2 g2 c2 s2 h2 _ h)
          refine lp_to hj (.one ⟨_, .done _, [], [], ?_⟩)
          clear hj
          try simp only [go_sem, s2.k, s2.r, s2.c, s2.p]
      · replace h := ifF (c := (decide (p0_0 < ((List.length a0 : Nat) : Int)))) hb2 h
        try simp only [go_sem, s2.k, s2.r, s2.c, s2.p]
        refine seq_go ?_
        try simp only [go_sem, s2.k, s2.r, s2.c, s2.p]
        replace h := Option.some.inj h
        obtain rfl := h
        simp only [go_sem, s2.k, s2.r, s2.c, s2.p]
theorem g_EqualFunc_simpl_ShardCell_l1_ok (n : Nat) : (∀ (a0 : List ShardCell) (a1 : List ShardCell) (p0_0 : Int) (f2 : (ShardCell → ShardCell → Option Bool)) (g2 : FuncId) (c2 : List AV) (s2 : Still c2) (h2 : ∀ (y0 : ShardCell) (y1 : ShardCell) (q : Bool), f2 y0 y1 = some q → AC Try.prog g2 (.agg (ShardCell.avs y0) :: .agg (ShardCell.avs y1) :: c2) (.bool q)) (r : Bool), g_EqualFunc_simpl_ShardCell_l1 n a0 a1 p0_0 f2 = some r → posF Try.prog Try.f305 [1, 1, 0, 1, 0] (.bool r) ⟨[(1, .ro (List.map ShardCell.ds a1)), (2, .fn g2 c2), (15, .ro (List.map ShardCell.ds a0)), (16, .int .i64 ((List.length a0 : Nat) : Int)), (17, .int .i64 p0_0)], [], []⟩) := (g_EqualFunc_simpl_ShardCell_l1_all n)

theorem g_EqualFunc_simpl_ShardCell_ok (a0 : List ShardCell) (a1 : List ShardCell) (f2 : (ShardCell → ShardCell → Option Bool)) (g2 : FuncId) (c2 : List AV) (s2 : Still c2) (h2 : ∀ (y0 : ShardCell) (y1 : ShardCell) (q : Bool), f2 y0 y1 = some q → AC Try.prog g2 (.agg (ShardCell.avs y0) :: .agg (ShardCell.avs y1) :: c2) (.bool q)) (r : Bool) (h : g_EqualFunc_simpl_ShardCell a0 a1 f2 = some r) : AC Try.prog 305 [.ro (List.map ShardCell.ds a0), .ro (List.map ShardCell.ds a1), .fn g2 c2] (.bool r) := by
  unfold g_EqualFunc_simpl_ShardCell at h
  refine ac_fn mixed Try.func305 rfl rfl rfl (by kernel_rfl) (by kernel_rfl) ?_
  try simp only [go_sem, s2.k, s2.r, s2.c, s2.p]
  refine cond_i (fun hb1 => ?_) (fun hb1 => ?_)
  · replace h := ifT (c := (!decide (((List.length a0 : Nat) : Int) = ((List.length a1 : Nat) : Int)))) hb1 h
    try simp only [go_sem, s2.k, s2.r, s2.c, s2.p]
    replace h := Option.some.inj h
    obtain rfl := h
    simp only [go_sem, s2.k, s2.r, s2.c, s2.p]
  · replace h := ifF (c := (!decide (((List.length a0 : Nat) : Int) = ((List.length a1 : Nat) : Int)))) hb1 h
    try simp only [go_sem, s2.k, s2.r, s2.c, s2.p]
    refine seq_go ?_
    try simp only [go_sem, s2.k, s2.r, s2.c, s2.p]
    have hj := posF_to rfl rfl (g_EqualFunc_simpl_ShardCell_l1_ok fuel a0 a1 0 f2 g2 c2 s2 h2 _ h)
    refine loop_to hj (.one ⟨_, .done _, [], [], ?_⟩)
    clear hj
    try simp only [go_sem, s2.k, s2.r, s2.c, s2.p]
theorem g_Equal_simpl_Address_l1_all (n : Nat) : (∀ (a0 : List Address) (a1 : List Address) (p0_0 : Int) (r : Bool), g_Equal_simpl_Address_l1 n a0 a1 p0_0 = some r → posF Try.prog Try.f357 [1, 1, 0, 1, 0] (.bool r) ⟨[(0, .ro (List.map Address.ds a0)), (1, .ro (List.map Address.ds a1)), (12, .int .i64 ((List.length a0 : Nat) : Int)), (13, .int .i64 p0_0)], [], []⟩) := by
  induction n with
  | zero => exact ((fun _ _ _ _ h => by rw [g_Equal_simpl_Address_l1] at h; cases h))
  | succ n ih =>
    have ih0 := ih
    · intro a0 a1 p0_0 r h
      rw [g_Equal_simpl_Address_l1] at h
      refine posF_of rfl rfl ?_
      try simp only [go_sem]
      refine loop_i ?_
      try simp only [go_sem]
      refine cond_i (fun hb2 => ?_) (fun hb2 => ?_)
      · replace h := ifT (c := (decide (p0_0 < ((List.length a0 : Nat) : Int)))) hb2 h
        try simp only [go_sem]
        refine seq_go ?_
        try simp only [go_sem]
        refine draw_i [] .fin (by kernel_rfl) ?_
        try simp only [go_sem]
        replace h := bindE h
        obtain ⟨v7002, hv7002, h⟩ := h
        refine idx_m hv7002 (Address.ds_len _) ?_
        try simp only [go_sem]
        replace h := bindE h
        obtain ⟨v7006, hv7006, h⟩ := h
        refine idx_m hv7006 (Address.ds_len _) ?_
        try simp only [go_sem]
        refine seq_go ?_
        try simp only [go_sem]
        refine cond_i (fun hb3 => ?_) (fun hb3 => ?_)
        · replace h := ifT (c := (!(decide (v7002.machine = v7006.machine) && (decide (v7002.kind = v7006.kind) && decide (v7002.index = v7006.index))))) hb3 h
          try simp only [go_sem]
          replace h := Option.some.inj h
          obtain rfl := h
          simp only [go_sem]
        · replace h := ifF (c := (!(decide (v7002.machine = v7006.machine) && (decide (v7002.kind = v7006.kind) && decide (v7002.index = v7006.index))))) hb3 h
          try simp only [go_sem]
          refine seq_go ?_
          try simp only [go_sem]
          have hj := posF_to rfl rfl (ih0 a0 a1 (IntKind.i64.wrap (p0_0 + 1)) _ h)
          refine lp_to hj (.one ⟨_, .done _, [], [], ?_⟩)
          clear hj
          try simp only [go_sem]
      · replace h := ifF (c := (decide (p0_0 < ((List.length a0 : Nat) : Int)))) hb2 h
        try simp only [go_sem]
        refine seq_go ?_
        try simp only [go_sem]
        replace h := Option.some.inj h
        obtain rfl := h
        simp only [go_sem]
theorem g_Equal_simpl_Address_l1_ok (n : Nat) : (∀ (a0 : List Address) (a1 : List Address) (p0_0 : Int) (r : Bool), g_Equal_simpl_Address_l1 n a0 a1 p0_0 = some r → posF Try.prog Try.f357 [1, 1, 0, 1, 0] (.bool r) ⟨[(0, .ro (List.map Address.ds a0)), (1, .ro (List.map Address.ds a1)), (12, .int .i64 ((List.length a0 : Nat) : Int)), (13, .int .i64 p0_0)], [], []⟩) := (g_Equal_simpl_Address_l1_all n)

theorem g_Equal_simpl_Address_ok (a0 : List Address) (a1 : List Address) (r : Bool) (h : g_Equal_simpl_Address a0 a1 = some r) : AC Try.prog 357 [.ro (List.map Address.ds a0), .ro (List.map Address.ds a1)] (.bool r) := by
  unfold g_Equal_simpl_Address at h
  refine ac_fn mixed Try.func357 rfl rfl rfl (by kernel_rfl) (by kernel_rfl) ?_
  try simp only [go_sem]
  refine cond_i (fun hb1 => ?_) (fun hb1 => ?_)
  · replace h := ifT (c := (!decide (((List.length a0 : Nat) : Int) = ((List.length a1 : Nat) : Int)))) hb1 h
    try simp only [go_sem]
    replace h := Option.some.inj h
    obtain rfl := h
    simp only [go_sem]
  · replace h := ifF (c := (!decide (((List.length a0 : Nat) : Int) = ((List.length a1 : Nat) : Int)))) hb1 h
    try simp only [go_sem]
    refine seq_go ?_
    try simp only [go_sem]
    have hj := posF_to rfl rfl (g_Equal_simpl_Address_l1_ok fuel a0 a1 0 _ h)
    refine loop_to hj (.one ⟨_, .done _, [], [], ?_⟩)
    clear hj
    try simp only [go_sem]
theorem i_sameShardCell_ok (a0 : ShardCell) (a1 : ShardCell) (r : Bool) (h : i_sameShardCell a0 a1 = some r) : AC Try.prog 306 [.agg (ShardCell.avs a0), .agg (ShardCell.avs a1)] (.bool r) := by
  unfold i_sameShardCell at h
  refine ac_fn mixed Try.func306 rfl rfl rfl (by kernel_rfl) (by kernel_rfl) ?_
  try simp only [go_sem]
  refine cond_i (fun hb1 => ?_) (fun hb1 => ?_)
  · replace h := ifT (c := (decide (a0.kind = a1.kind))) hb1 h
    try simp only [go_sem]
    refine cond_i (fun hb2 => ?_) (fun hb2 => ?_)
    · replace h := ifT (c := (decide (a0.level = a1.level))) hb2 h
      try simp only [go_sem]
      refine cond_i (fun hb3 => ?_) (fun hb3 => ?_)
      · replace h := ifT (c := (decide (a0.value = a1.value))) hb3 h
        try simp only [go_sem]
        replace h := bindE h
        obtain ⟨v2024, hv2024, h⟩ := h
        refine call_i (g_Equal_sint64_ok _ _ _ hv2024) ?_
        try simp only [go_sem]
        refine cond_i (fun hb4 => ?_) (fun hb4 => ?_)
        · replace h := ifT (c := v2024) hb4 h
          try simp only [go_sem]
          replace h := bindE h
          obtain ⟨v2031, hv2031, h⟩ := h
          refine call_i (g_Equal_simpl_Address_ok _ _ _ hv2031) ?_
          try simp only [go_sem]
          refine seq_go ?_
          try simp only [go_sem]
          replace h := Option.some.inj h
          obtain rfl := h
          simp only [go_sem]
        · replace h := ifF (c := v2024) hb4 h
          try simp only [go_sem]
          refine seq_go ?_
          try simp only [go_sem]
          replace h := Option.some.inj h
          obtain rfl := h
          simp only [go_sem]
      · replace h := ifF (c := (decide (a0.value = a1.value))) hb3 h
        try simp only [go_sem]
        refine seq_go ?_
        try simp only [go_sem]
        replace h := Option.some.inj h
        obtain rfl := h
        simp only [go_sem]
    · replace h := ifF (c := (decide (a0.level = a1.level))) hb2 h
      try simp only [go_sem]
      refine seq_go ?_
      try simp only [go_sem]
      replace h := Option.some.inj h
      obtain rfl := h
      simp only [go_sem]
  · replace h := ifF (c := (decide (a0.kind = a1.kind))) hb1 h
    try simp only [go_sem]
    refine seq_go ?_
    try simp only [go_sem]
    replace h := Option.some.inj h
    obtain rfl := h
    simp only [go_sem]
theorem g_Equal_simpl_ShardVar_l1_all (n : Nat) : (∀ (a0 : List ShardVar) (a1 : List ShardVar) (p0_0 : Int) (r : Bool), g_Equal_simpl_ShardVar_l1 n a0 a1 p0_0 = some r → posF Try.prog Try.f307 [1, 1, 0, 1, 0] (.bool r) ⟨[(0, .ro (List.map ShardVar.ds a0)), (1, .ro (List.map ShardVar.ds a1)), (12, .int .i64 ((List.length a0 : Nat) : Int)), (13, .int .i64 p0_0)], [], []⟩) := by
  induction n with
  | zero => exact ((fun _ _ _ _ h => by rw [g_Equal_simpl_ShardVar_l1] at h; cases h))
  | succ n ih =>
    have ih0 := ih
    · intro a0 a1 p0_0 r h
      rw [g_Equal_simpl_ShardVar_l1] at h
      refine posF_of rfl rfl ?_
      try simp only [go_sem]
      refine loop_i ?_
      try simp only [go_sem]
      refine cond_i (fun hb2 => ?_) (fun hb2 => ?_)
      · replace h := ifT (c := (decide (p0_0 < ((List.length a0 : Nat) : Int)))) hb2 h
        try simp only [go_sem]
        refine seq_go ?_
        try simp only [go_sem]
        refine draw_i [] .fin (by kernel_rfl) ?_
        try simp only [go_sem]
        replace h := bindE h
        obtain ⟨v7002, hv7002, h⟩ := h
        refine idx_m hv7002 (ShardVar.ds_len _) ?_
        try simp only [go_sem]
        replace h := bindE h
        obtain ⟨v7006, hv7006, h⟩ := h
        refine idx_m hv7006 (ShardVar.ds_len _) ?_
        try simp only [go_sem]
        refine seq_go ?_
        try simp only [go_sem]
        refine cond_i (fun hb3 => ?_) (fun hb3 => ?_)
        · replace h := ifT (c := (!(v7002.used == v7006.used && (v7002.full == v7006.full && (decide (v7002.held.machine = v7006.held.machine) && (decide (v7002.held.kind = v7006.held.kind) && decide (v7002.held.index = v7006.held.index))))))) hb3 h
          try simp only [go_sem]
          replace h := Option.some.inj h
          obtain rfl := h
          simp only [go_sem]
        · replace h := ifF (c := (!(v7002.used == v7006.used && (v7002.full == v7006.full && (decide (v7002.held.machine = v7006.held.machine) && (decide (v7002.held.kind = v7006.held.kind) && decide (v7002.held.index = v7006.held.index))))))) hb3 h
          try simp only [go_sem]
          refine seq_go ?_
          try simp only [go_sem]
          have hj := posF_to rfl rfl (ih0 a0 a1 (IntKind.i64.wrap (p0_0 + 1)) _ h)
          refine lp_to hj (.one ⟨_, .done _, [], [], ?_⟩)
          clear hj
          try simp only [go_sem]
      · replace h := ifF (c := (decide (p0_0 < ((List.length a0 : Nat) : Int)))) hb2 h
        try simp only [go_sem]
        refine seq_go ?_
        try simp only [go_sem]
        replace h := Option.some.inj h
        obtain rfl := h
        simp only [go_sem]
theorem g_Equal_simpl_ShardVar_l1_ok (n : Nat) : (∀ (a0 : List ShardVar) (a1 : List ShardVar) (p0_0 : Int) (r : Bool), g_Equal_simpl_ShardVar_l1 n a0 a1 p0_0 = some r → posF Try.prog Try.f307 [1, 1, 0, 1, 0] (.bool r) ⟨[(0, .ro (List.map ShardVar.ds a0)), (1, .ro (List.map ShardVar.ds a1)), (12, .int .i64 ((List.length a0 : Nat) : Int)), (13, .int .i64 p0_0)], [], []⟩) := (g_Equal_simpl_ShardVar_l1_all n)

theorem g_Equal_simpl_ShardVar_ok (a0 : List ShardVar) (a1 : List ShardVar) (r : Bool) (h : g_Equal_simpl_ShardVar a0 a1 = some r) : AC Try.prog 307 [.ro (List.map ShardVar.ds a0), .ro (List.map ShardVar.ds a1)] (.bool r) := by
  unfold g_Equal_simpl_ShardVar at h
  refine ac_fn mixed Try.func307 rfl rfl rfl (by kernel_rfl) (by kernel_rfl) ?_
  try simp only [go_sem]
  refine cond_i (fun hb1 => ?_) (fun hb1 => ?_)
  · replace h := ifT (c := (!decide (((List.length a0 : Nat) : Int) = ((List.length a1 : Nat) : Int)))) hb1 h
    try simp only [go_sem]
    replace h := Option.some.inj h
    obtain rfl := h
    simp only [go_sem]
  · replace h := ifF (c := (!decide (((List.length a0 : Nat) : Int) = ((List.length a1 : Nat) : Int)))) hb1 h
    try simp only [go_sem]
    refine seq_go ?_
    try simp only [go_sem]
    have hj := posF_to rfl rfl (g_Equal_simpl_ShardVar_l1_ok fuel a0 a1 0 _ h)
    refine loop_to hj (.one ⟨_, .done _, [], [], ?_⟩)
    clear hj
    try simp only [go_sem]
theorem g_Equal_simpl_ShardRedex_l1_all (n : Nat) : (∀ (a0 : List ShardRedex) (a1 : List ShardRedex) (p0_0 : Int) (r : Bool), g_Equal_simpl_ShardRedex_l1 n a0 a1 p0_0 = some r → posF Try.prog Try.f308 [1, 1, 0, 1, 0] (.bool r) ⟨[(0, .ro (List.map ShardRedex.ds a0)), (1, .ro (List.map ShardRedex.ds a1)), (12, .int .i64 ((List.length a0 : Nat) : Int)), (13, .int .i64 p0_0)], [], []⟩) := by
  induction n with
  | zero => exact ((fun _ _ _ _ h => by rw [g_Equal_simpl_ShardRedex_l1] at h; cases h))
  | succ n ih =>
    have ih0 := ih
    · intro a0 a1 p0_0 r h
      rw [g_Equal_simpl_ShardRedex_l1] at h
      refine posF_of rfl rfl ?_
      try simp only [go_sem]
      refine loop_i ?_
      try simp only [go_sem]
      refine cond_i (fun hb2 => ?_) (fun hb2 => ?_)
      · replace h := ifT (c := (decide (p0_0 < ((List.length a0 : Nat) : Int)))) hb2 h
        try simp only [go_sem]
        refine seq_go ?_
        try simp only [go_sem]
        refine draw_i [] .fin (by kernel_rfl) ?_
        try simp only [go_sem]
        replace h := bindE h
        obtain ⟨v7002, hv7002, h⟩ := h
        refine idx_m hv7002 (ShardRedex.ds_len _) ?_
        try simp only [go_sem]
        replace h := bindE h
        obtain ⟨v7006, hv7006, h⟩ := h
        refine idx_m hv7006 (ShardRedex.ds_len _) ?_
        try simp only [go_sem]
        refine seq_go ?_
        try simp only [go_sem]
        refine cond_i (fun hb3 => ?_) (fun hb3 => ?_)
        · replace h := ifT (c := (!(decide (v7002.a.machine = v7006.a.machine) && (decide (v7002.a.kind = v7006.a.kind) && (decide (v7002.a.index = v7006.a.index) && (decide (v7002.b.machine = v7006.b.machine) && (decide (v7002.b.kind = v7006.b.kind) && decide (v7002.b.index = v7006.b.index)))))))) hb3 h
          try simp only [go_sem]
          replace h := Option.some.inj h
          obtain rfl := h
          simp only [go_sem]
        · replace h := ifF (c := (!(decide (v7002.a.machine = v7006.a.machine) && (decide (v7002.a.kind = v7006.a.kind) && (decide (v7002.a.index = v7006.a.index) && (decide (v7002.b.machine = v7006.b.machine) && (decide (v7002.b.kind = v7006.b.kind) && decide (v7002.b.index = v7006.b.index)))))))) hb3 h
          try simp only [go_sem]
          refine seq_go ?_
          try simp only [go_sem]
          have hj := posF_to rfl rfl (ih0 a0 a1 (IntKind.i64.wrap (p0_0 + 1)) _ h)
          refine lp_to hj (.one ⟨_, .done _, [], [], ?_⟩)
          clear hj
          try simp only [go_sem]
      · replace h := ifF (c := (decide (p0_0 < ((List.length a0 : Nat) : Int)))) hb2 h
        try simp only [go_sem]
        refine seq_go ?_
        try simp only [go_sem]
        replace h := Option.some.inj h
        obtain rfl := h
        simp only [go_sem]
theorem g_Equal_simpl_ShardRedex_l1_ok (n : Nat) : (∀ (a0 : List ShardRedex) (a1 : List ShardRedex) (p0_0 : Int) (r : Bool), g_Equal_simpl_ShardRedex_l1 n a0 a1 p0_0 = some r → posF Try.prog Try.f308 [1, 1, 0, 1, 0] (.bool r) ⟨[(0, .ro (List.map ShardRedex.ds a0)), (1, .ro (List.map ShardRedex.ds a1)), (12, .int .i64 ((List.length a0 : Nat) : Int)), (13, .int .i64 p0_0)], [], []⟩) := (g_Equal_simpl_ShardRedex_l1_all n)

theorem g_Equal_simpl_ShardRedex_ok (a0 : List ShardRedex) (a1 : List ShardRedex) (r : Bool) (h : g_Equal_simpl_ShardRedex a0 a1 = some r) : AC Try.prog 308 [.ro (List.map ShardRedex.ds a0), .ro (List.map ShardRedex.ds a1)] (.bool r) := by
  unfold g_Equal_simpl_ShardRedex at h
  refine ac_fn mixed Try.func308 rfl rfl rfl (by kernel_rfl) (by kernel_rfl) ?_
  try simp only [go_sem]
  refine cond_i (fun hb1 => ?_) (fun hb1 => ?_)
  · replace h := ifT (c := (!decide (((List.length a0 : Nat) : Int) = ((List.length a1 : Nat) : Int)))) hb1 h
    try simp only [go_sem]
    replace h := Option.some.inj h
    obtain rfl := h
    simp only [go_sem]
  · replace h := ifF (c := (!decide (((List.length a0 : Nat) : Int) = ((List.length a1 : Nat) : Int)))) hb1 h
    try simp only [go_sem]
    refine seq_go ?_
    try simp only [go_sem]
    have hj := posF_to rfl rfl (g_Equal_simpl_ShardRedex_l1_ok fuel a0 a1 0 _ h)
    refine loop_to hj (.one ⟨_, .done _, [], [], ?_⟩)
    clear hj
    try simp only [go_sem]
theorem i_SameShard_ok (a0 : Shard) (a1 : Shard) (r : Bool) (h : i_SameShard a0 a1 = some r) : AC Try.prog 256 [.agg (Shard.avs a0), .agg (Shard.avs a1)] (.bool r) := by
  unfold i_SameShard at h
  refine ac_fn mixed Try.func256 rfl rfl rfl (by kernel_rfl) (by kernel_rfl) ?_
  try simp only [go_sem]
  replace h := bindE h
  obtain ⟨v2004, hv2004, h⟩ := h
  refine call_i (g_EqualFunc_simpl_ShardCell_ok _ _ _ 306 [] (Still.of rfl) (fun y0 y1 q hq => i_sameShardCell_ok y0 y1  q hq) _ hv2004) ?_
  try simp only [go_sem]
  refine cond_i (fun hb1 => ?_) (fun hb1 => ?_)
  · replace h := ifT (c := v2004) hb1 h
    try simp only [go_sem]
    replace h := bindE h
    obtain ⟨v2010, hv2010, h⟩ := h
    refine call_i (g_Equal_simpl_ShardVar_ok _ _ _ hv2010) ?_
    try simp only [go_sem]
    refine cond_i (fun hb2 => ?_) (fun hb2 => ?_)
    · replace h := ifT (c := v2010) hb2 h
      try simp only [go_sem]
      replace h := bindE h
      obtain ⟨v2017, hv2017, h⟩ := h
      refine call_i (g_Equal_simpl_ShardRedex_ok _ _ _ hv2017) ?_
      try simp only [go_sem]
      refine seq_go ?_
      try simp only [go_sem]
      replace h := Option.some.inj h
      obtain rfl := h
      simp only [go_sem]
    · replace h := ifF (c := v2010) hb2 h
      try simp only [go_sem]
      refine seq_go ?_
      try simp only [go_sem]
      replace h := Option.some.inj h
      obtain rfl := h
      simp only [go_sem]
  · replace h := ifF (c := v2004) hb1 h
    try simp only [go_sem]
    refine seq_go ?_
    try simp only [go_sem]
    replace h := Option.some.inj h
    obtain rfl := h
    simp only [go_sem]
theorem i_SameGrid_ok (a0 : Grid) (a1 : Grid) (r : Bool) (h : i_SameGrid a0 a1 = some r) : AC Try.prog 186 [.agg (Grid.avs a0), .agg (Grid.avs a1)] (.bool r) := by
  unfold i_SameGrid at h
  refine ac_fn mixed Try.func186 rfl rfl rfl (by kernel_rfl) (by kernel_rfl) ?_
  try simp only [go_sem]
  refine cond_i (fun hb1 => ?_) (fun hb1 => ?_)
  · replace h := ifT (c := (decide (a0.root.machine = a1.root.machine) && (decide (a0.root.kind = a1.root.kind) && decide (a0.root.index = a1.root.index)))) hb1 h
    try simp only [go_sem]
    replace h := bindE h
    obtain ⟨v2010, hv2010, h⟩ := h
    refine call_i (g_EqualFunc_simpl_Shard_ok _ _ _ 256 [] (Still.of rfl) (fun y0 y1 q hq => i_SameShard_ok y0 y1  q hq) _ hv2010) ?_
    try simp only [go_sem]
    refine seq_go ?_
    try simp only [go_sem]
    replace h := Option.some.inj h
    obtain rfl := h
    simp only [go_sem]
  · replace h := ifF (c := (decide (a0.root.machine = a1.root.machine) && (decide (a0.root.kind = a1.root.kind) && decide (a0.root.index = a1.root.index)))) hb1 h
    try simp only [go_sem]
    refine seq_go ?_
    try simp only [go_sem]
    replace h := Option.some.inj h
    obtain rfl := h
    simp only [go_sem]
theorem g_EqualFunc_ssimpl_Parcel_l1_all (n : Nat) : (∀ (a0 : List (List Parcel)) (a1 : List (List Parcel)) (p0_0 : Int) (f2 : ((List Parcel) → (List Parcel) → Option Bool)) (g2 : FuncId) (c2 : List AV) (s2 : Still c2) (h2 : ∀ (y0 : List Parcel) (y1 : List Parcel) (q : Bool), f2 y0 y1 = some q → AC Try.prog g2 (.ro (List.map Parcel.ds y0) :: .ro (List.map Parcel.ds y1) :: c2) (.bool q)) (r : Bool), g_EqualFunc_ssimpl_Parcel_l1 n a0 a1 p0_0 f2 = some r → posF Try.prog Try.f187 [1, 1, 0, 1, 0] (.bool r) ⟨[(1, .ro (List.map (slD Parcel.ds) a1)), (2, .fn g2 c2), (15, .ro (List.map (slD Parcel.ds) a0)), (16, .int .i64 ((List.length a0 : Nat) : Int)), (17, .int .i64 p0_0)], [], []⟩) := by
  induction n with
  | zero => exact ((fun _ _ _ _ _ _ _ _ _ h => by rw [g_EqualFunc_ssimpl_Parcel_l1] at h; cases h))
  | succ n ih =>
    have ih0 := ih
    · intro a0 a1 p0_0 f2 g2 c2 s2 h2 r h
      rw [g_EqualFunc_ssimpl_Parcel_l1] at h
      refine posF_of rfl rfl ?_
      try simp only [go_sem, s2.k, s2.r, s2.c, s2.p]
      refine loop_i ?_
      try simp only [go_sem, s2.k, s2.r, s2.c, s2.p]
      refine cond_i (fun hb2 => ?_) (fun hb2 => ?_)
      · replace h := ifT (c := (decide (p0_0 < ((List.length a0 : Nat) : Int)))) hb2 h
        try simp only [go_sem, s2.k, s2.r, s2.c, s2.p]
        refine seq_go ?_
        try simp only [go_sem, s2.k, s2.r, s2.c, s2.p]
        replace h := bindE h
        obtain ⟨v6001, hv6001, h⟩ := h
        refine idx_m hv6001 rfl ?_
        try simp only [go_sem, s2.k, s2.r, s2.c, s2.p]
        replace h := bindE h
        obtain ⟨v7002, hv7002, h⟩ := h
        refine idx_m hv7002 rfl ?_
        try simp only [go_sem, s2.k, s2.r, s2.c, s2.p]
        replace h := bindE h
        obtain ⟨v8003, hv8003, h⟩ := h
        refine call_i (h2 _ _ _ hv8003) ?_
        try simp only [go_sem, s2.k, s2.r, s2.c, s2.p]
        refine cond_i (fun hb3 => ?_) (fun hb3 => ?_)
        · replace h := ifT (c := (!v8003)) hb3 h
          try simp only [go_sem, s2.k, s2.r, s2.c, s2.p]
          replace h := Option.some.inj h
          obtain rfl := h
          simp only [go_sem, s2.k, s2.r, s2.c, s2.p]
        · replace h := ifF (c := (!v8003)) hb3 h
          try simp only [go_sem, s2.k, s2.r, s2.c, s2.p]
          refine seq_go ?_
          try simp only [go_sem, s2.k, s2.r, s2.c, s2.p]
          have hj := posF_to rfl rfl (ih0 a0 a1 (IntKind.i64.wrap (p0_0 + 1)) f2 g2 c2 s2 h2 _ h)
          refine lp_to hj (.one ⟨_, .done _, [], [], ?_⟩)
          clear hj
          try simp only [go_sem, s2.k, s2.r, s2.c, s2.p]
      · replace h := ifF (c := (decide (p0_0 < ((List.length a0 : Nat) : Int)))) hb2 h
        try simp only [go_sem, s2.k, s2.r, s2.c, s2.p]
        refine seq_go ?_
        try simp only [go_sem, s2.k, s2.r, s2.c, s2.p]
        replace h := Option.some.inj h
        obtain rfl := h
        simp only [go_sem, s2.k, s2.r, s2.c, s2.p]
theorem g_EqualFunc_ssimpl_Parcel_l1_ok (n : Nat) : (∀ (a0 : List (List Parcel)) (a1 : List (List Parcel)) (p0_0 : Int) (f2 : ((List Parcel) → (List Parcel) → Option Bool)) (g2 : FuncId) (c2 : List AV) (s2 : Still c2) (h2 : ∀ (y0 : List Parcel) (y1 : List Parcel) (q : Bool), f2 y0 y1 = some q → AC Try.prog g2 (.ro (List.map Parcel.ds y0) :: .ro (List.map Parcel.ds y1) :: c2) (.bool q)) (r : Bool), g_EqualFunc_ssimpl_Parcel_l1 n a0 a1 p0_0 f2 = some r → posF Try.prog Try.f187 [1, 1, 0, 1, 0] (.bool r) ⟨[(1, .ro (List.map (slD Parcel.ds) a1)), (2, .fn g2 c2), (15, .ro (List.map (slD Parcel.ds) a0)), (16, .int .i64 ((List.length a0 : Nat) : Int)), (17, .int .i64 p0_0)], [], []⟩) := (g_EqualFunc_ssimpl_Parcel_l1_all n)

theorem g_EqualFunc_ssimpl_Parcel_ok (a0 : List (List Parcel)) (a1 : List (List Parcel)) (f2 : ((List Parcel) → (List Parcel) → Option Bool)) (g2 : FuncId) (c2 : List AV) (s2 : Still c2) (h2 : ∀ (y0 : List Parcel) (y1 : List Parcel) (q : Bool), f2 y0 y1 = some q → AC Try.prog g2 (.ro (List.map Parcel.ds y0) :: .ro (List.map Parcel.ds y1) :: c2) (.bool q)) (r : Bool) (h : g_EqualFunc_ssimpl_Parcel a0 a1 f2 = some r) : AC Try.prog 187 [.ro (List.map (slD Parcel.ds) a0), .ro (List.map (slD Parcel.ds) a1), .fn g2 c2] (.bool r) := by
  unfold g_EqualFunc_ssimpl_Parcel at h
  refine ac_fn mixed Try.func187 rfl rfl rfl (by kernel_rfl) (by kernel_rfl) ?_
  try simp only [go_sem, s2.k, s2.r, s2.c, s2.p]
  refine cond_i (fun hb1 => ?_) (fun hb1 => ?_)
  · replace h := ifT (c := (!decide (((List.length a0 : Nat) : Int) = ((List.length a1 : Nat) : Int)))) hb1 h
    try simp only [go_sem, s2.k, s2.r, s2.c, s2.p]
    replace h := Option.some.inj h
    obtain rfl := h
    simp only [go_sem, s2.k, s2.r, s2.c, s2.p]
  · replace h := ifF (c := (!decide (((List.length a0 : Nat) : Int) = ((List.length a1 : Nat) : Int)))) hb1 h
    try simp only [go_sem, s2.k, s2.r, s2.c, s2.p]
    refine seq_go ?_
    try simp only [go_sem, s2.k, s2.r, s2.c, s2.p]
    have hj := posF_to rfl rfl (g_EqualFunc_ssimpl_Parcel_l1_ok fuel a0 a1 0 f2 g2 c2 s2 h2 _ h)
    refine loop_to hj (.one ⟨_, .done _, [], [], ?_⟩)
    clear hj
    try simp only [go_sem, s2.k, s2.r, s2.c, s2.p]
theorem g_EqualFunc_simpl_Parcel_l1_all (n : Nat) : (∀ (a0 : List Parcel) (a1 : List Parcel) (p0_0 : Int) (f2 : (Parcel → Parcel → Option Bool)) (g2 : FuncId) (c2 : List AV) (s2 : Still c2) (h2 : ∀ (y0 : Parcel) (y1 : Parcel) (q : Bool), f2 y0 y1 = some q → AC Try.prog g2 (.agg (Parcel.avs y0) :: .agg (Parcel.avs y1) :: c2) (.bool q)) (r : Bool), g_EqualFunc_simpl_Parcel_l1 n a0 a1 p0_0 f2 = some r → posF Try.prog Try.f257 [1, 1, 0, 1, 0] (.bool r) ⟨[(1, .ro (List.map Parcel.ds a1)), (2, .fn g2 c2), (15, .ro (List.map Parcel.ds a0)), (16, .int .i64 ((List.length a0 : Nat) : Int)), (17, .int .i64 p0_0)], [], []⟩) := by
  induction n with
  | zero => exact ((fun _ _ _ _ _ _ _ _ _ h => by rw [g_EqualFunc_simpl_Parcel_l1] at h; cases h))
  | succ n ih =>
    have ih0 := ih
    · intro a0 a1 p0_0 f2 g2 c2 s2 h2 r h
      rw [g_EqualFunc_simpl_Parcel_l1] at h
      refine posF_of rfl rfl ?_
      try simp only [go_sem, s2.k, s2.r, s2.c, s2.p]
      refine loop_i ?_
      try simp only [go_sem, s2.k, s2.r, s2.c, s2.p]
      refine cond_i (fun hb2 => ?_) (fun hb2 => ?_)
      · replace h := ifT (c := (decide (p0_0 < ((List.length a0 : Nat) : Int)))) hb2 h
        try simp only [go_sem, s2.k, s2.r, s2.c, s2.p]
        refine seq_go ?_
        try simp only [go_sem, s2.k, s2.r, s2.c, s2.p]
        replace h := bindE h
        obtain ⟨v6001, hv6001, h⟩ := h
        refine idx_m hv6001 (Parcel.ds_len _) ?_
        try simp only [go_sem, s2.k, s2.r, s2.c, s2.p]
        replace h := bindE h
        obtain ⟨v7002, hv7002, h⟩ := h
        refine idx_m hv7002 (Parcel.ds_len _) ?_
        try simp only [go_sem, s2.k, s2.r, s2.c, s2.p]
        replace h := bindE h
        obtain ⟨v8003, hv8003, h⟩ := h
        refine call_i (h2 _ _ _ hv8003) ?_
        try simp only [go_sem, s2.k, s2.r, s2.c, s2.p]
        refine cond_i (fun hb3 => ?_) (fun hb3 => ?_)
        · replace h := ifT (c := (!v8003)) hb3 h
          try simp only [go_sem, s2.k, s2.r, s2.c, s2.p]
          replace h := Option.some.inj h
          obtain rfl := h
          simp only [go_sem, s2.k, s2.r, s2.c, s2.p]
        · replace h := ifF (c := (!v8003)) hb3 h
          try simp only [go_sem, s2.k, s2.r, s2.c, s2.p]
          refine seq_go ?_
          try simp only [go_sem, s2.k, s2.r, s2.c, s2.p]
          have hj := posF_to rfl rfl (ih0 a0 a1 (IntKind.i64.wrap (p0_0 + 1)) f2 g2 c2 s2 h2 _ h)
          refine lp_to hj (.one ⟨_, .done _, [], [], ?_⟩)
          clear hj
          try simp only [go_sem, s2.k, s2.r, s2.c, s2.p]
      · replace h := ifF (c := (decide (p0_0 < ((List.length a0 : Nat) : Int)))) hb2 h
        try simp only [go_sem, s2.k, s2.r, s2.c, s2.p]
        refine seq_go ?_
        try simp only [go_sem, s2.k, s2.r, s2.c, s2.p]
        replace h := Option.some.inj h
        obtain rfl := h
        simp only [go_sem, s2.k, s2.r, s2.c, s2.p]
theorem g_EqualFunc_simpl_Parcel_l1_ok (n : Nat) : (∀ (a0 : List Parcel) (a1 : List Parcel) (p0_0 : Int) (f2 : (Parcel → Parcel → Option Bool)) (g2 : FuncId) (c2 : List AV) (s2 : Still c2) (h2 : ∀ (y0 : Parcel) (y1 : Parcel) (q : Bool), f2 y0 y1 = some q → AC Try.prog g2 (.agg (Parcel.avs y0) :: .agg (Parcel.avs y1) :: c2) (.bool q)) (r : Bool), g_EqualFunc_simpl_Parcel_l1 n a0 a1 p0_0 f2 = some r → posF Try.prog Try.f257 [1, 1, 0, 1, 0] (.bool r) ⟨[(1, .ro (List.map Parcel.ds a1)), (2, .fn g2 c2), (15, .ro (List.map Parcel.ds a0)), (16, .int .i64 ((List.length a0 : Nat) : Int)), (17, .int .i64 p0_0)], [], []⟩) := (g_EqualFunc_simpl_Parcel_l1_all n)

theorem g_EqualFunc_simpl_Parcel_ok (a0 : List Parcel) (a1 : List Parcel) (f2 : (Parcel → Parcel → Option Bool)) (g2 : FuncId) (c2 : List AV) (s2 : Still c2) (h2 : ∀ (y0 : Parcel) (y1 : Parcel) (q : Bool), f2 y0 y1 = some q → AC Try.prog g2 (.agg (Parcel.avs y0) :: .agg (Parcel.avs y1) :: c2) (.bool q)) (r : Bool) (h : g_EqualFunc_simpl_Parcel a0 a1 f2 = some r) : AC Try.prog 257 [.ro (List.map Parcel.ds a0), .ro (List.map Parcel.ds a1), .fn g2 c2] (.bool r) := by
  unfold g_EqualFunc_simpl_Parcel at h
  refine ac_fn mixed Try.func257 rfl rfl rfl (by kernel_rfl) (by kernel_rfl) ?_
  try simp only [go_sem, s2.k, s2.r, s2.c, s2.p]
  refine cond_i (fun hb1 => ?_) (fun hb1 => ?_)
  · replace h := ifT (c := (!decide (((List.length a0 : Nat) : Int) = ((List.length a1 : Nat) : Int)))) hb1 h
    try simp only [go_sem, s2.k, s2.r, s2.c, s2.p]
    replace h := Option.some.inj h
    obtain rfl := h
    simp only [go_sem, s2.k, s2.r, s2.c, s2.p]
  · replace h := ifF (c := (!decide (((List.length a0 : Nat) : Int) = ((List.length a1 : Nat) : Int)))) hb1 h
    try simp only [go_sem, s2.k, s2.r, s2.c, s2.p]
    refine seq_go ?_
    try simp only [go_sem, s2.k, s2.r, s2.c, s2.p]
    have hj := posF_to rfl rfl (g_EqualFunc_simpl_Parcel_l1_ok fuel a0 a1 0 f2 g2 c2 s2 h2 _ h)
    refine loop_to hj (.one ⟨_, .done _, [], [], ?_⟩)
    clear hj
    try simp only [go_sem, s2.k, s2.r, s2.c, s2.p]
theorem i_sameParcel_ok (a0 : Parcel) (a1 : Parcel) (r : Bool) (h : i_sameParcel a0 a1 = some r) : AC Try.prog 258 [.agg (Parcel.avs a0), .agg (Parcel.avs a1)] (.bool r) := by
  unfold i_sameParcel at h
  refine ac_fn mixed Try.func258 rfl rfl rfl (by kernel_rfl) (by kernel_rfl) ?_
  try simp only [go_sem]
  refine cond_i (fun hb1 => ?_) (fun hb1 => ?_)
  · replace h := ifT (c := (decide (a0.kind = a1.kind))) hb1 h
    try simp only [go_sem]
    refine cond_i (fun hb2 => ?_) (fun hb2 => ?_)
    · replace h := ifT (c := (decide (a0.a.machine = a1.a.machine) && (decide (a0.a.kind = a1.a.kind) && decide (a0.a.index = a1.a.index)))) hb2 h
      try simp only [go_sem]
      refine cond_i (fun hb3 => ?_) (fun hb3 => ?_)
      · replace h := ifT (c := (decide (a0.b.machine = a1.b.machine) && (decide (a0.b.kind = a1.b.kind) && decide (a0.b.index = a1.b.index)))) hb3 h
        try simp only [go_sem]
        replace h := bindE h
        obtain ⟨v2024, hv2024, h⟩ := h
        refine call_i (i_sameShardCell_ok _ _ _ hv2024) ?_
        try simp only [go_sem]
        refine seq_go ?_
        try simp only [go_sem]
        replace h := Option.some.inj h
        obtain rfl := h
        simp only [go_sem]
      · replace h := ifF (c := (decide (a0.b.machine = a1.b.machine) && (decide (a0.b.kind = a1.b.kind) && decide (a0.b.index = a1.b.index)))) hb3 h
        try simp only [go_sem]
        refine seq_go ?_
        try simp only [go_sem]
        replace h := Option.some.inj h
        obtain rfl := h
        simp only [go_sem]
    · replace h := ifF (c := (decide (a0.a.machine = a1.a.machine) && (decide (a0.a.kind = a1.a.kind) && decide (a0.a.index = a1.a.index)))) hb2 h
      try simp only [go_sem]
      refine seq_go ?_
      try simp only [go_sem]
      replace h := Option.some.inj h
      obtain rfl := h
      simp only [go_sem]
  · replace h := ifF (c := (decide (a0.kind = a1.kind))) hb1 h
    try simp only [go_sem]
    refine seq_go ?_
    try simp only [go_sem]
    replace h := Option.some.inj h
    obtain rfl := h
    simp only [go_sem]
theorem i_sameParcels_ok (a0 : List Parcel) (a1 : List Parcel) (r : Bool) (h : i_sameParcels a0 a1 = some r) : AC Try.prog 188 [.ro (List.map Parcel.ds a0), .ro (List.map Parcel.ds a1)] (.bool r) := by
  unfold i_sameParcels at h
  refine ac_fn mixed Try.func188 rfl rfl rfl (by kernel_rfl) (by kernel_rfl) ?_
  try simp only [go_sem]
  replace h := bindE h
  obtain ⟨v2002, hv2002, h⟩ := h
  refine call_i (g_EqualFunc_simpl_Parcel_ok _ _ _ 258 [] (Still.of rfl) (fun y0 y1 q hq => i_sameParcel_ok y0 y1  q hq) _ hv2002) ?_
  try simp only [go_sem]
  replace h := Option.some.inj h
  obtain rfl := h
  simp only [go_sem]
theorem g_EqualFunc_ssint64_l1_all (n : Nat) : (∀ (a0 : List (List Int)) (a1 : List (List Int)) (p0_0 : Int) (f2 : ((List Int) → (List Int) → Option Bool)) (g2 : FuncId) (c2 : List AV) (s2 : Still c2) (h2 : ∀ (y0 : List Int) (y1 : List Int) (q : Bool), f2 y0 y1 = some q → AC Try.prog g2 (.ro (List.map i64D y0) :: .ro (List.map i64D y1) :: c2) (.bool q)) (r : Bool), g_EqualFunc_ssint64_l1 n a0 a1 p0_0 f2 = some r → posF Try.prog Try.f189 [1, 1, 0, 1, 0] (.bool r) ⟨[(1, .ro (List.map (slD i64D) a1)), (2, .fn g2 c2), (15, .ro (List.map (slD i64D) a0)), (16, .int .i64 ((List.length a0 : Nat) : Int)), (17, .int .i64 p0_0)], [], []⟩) := by
  induction n with
  | zero => exact ((fun _ _ _ _ _ _ _ _ _ h => by rw [g_EqualFunc_ssint64_l1] at h; cases h))
  | succ n ih =>
    have ih0 := ih
    · intro a0 a1 p0_0 f2 g2 c2 s2 h2 r h
      rw [g_EqualFunc_ssint64_l1] at h
      refine posF_of rfl rfl ?_
      try simp only [go_sem, s2.k, s2.r, s2.c, s2.p]
      refine loop_i ?_
      try simp only [go_sem, s2.k, s2.r, s2.c, s2.p]
      refine cond_i (fun hb2 => ?_) (fun hb2 => ?_)
      · replace h := ifT (c := (decide (p0_0 < ((List.length a0 : Nat) : Int)))) hb2 h
        try simp only [go_sem, s2.k, s2.r, s2.c, s2.p]
        refine seq_go ?_
        try simp only [go_sem, s2.k, s2.r, s2.c, s2.p]
        replace h := bindE h
        obtain ⟨v6001, hv6001, h⟩ := h
        refine idx_m hv6001 rfl ?_
        try simp only [go_sem, s2.k, s2.r, s2.c, s2.p]
        replace h := bindE h
        obtain ⟨v7002, hv7002, h⟩ := h
        refine idx_m hv7002 rfl ?_
        try simp only [go_sem, s2.k, s2.r, s2.c, s2.p]
        replace h := bindE h
        obtain ⟨v8003, hv8003, h⟩ := h
        refine call_i (h2 _ _ _ hv8003) ?_
        try simp only [go_sem, s2.k, s2.r, s2.c, s2.p]
        refine cond_i (fun hb3 => ?_) (fun hb3 => ?_)
        · replace h := ifT (c := (!v8003)) hb3 h
          try simp only [go_sem, s2.k, s2.r, s2.c, s2.p]
          replace h := Option.some.inj h
          obtain rfl := h
          simp only [go_sem, s2.k, s2.r, s2.c, s2.p]
        · replace h := ifF (c := (!v8003)) hb3 h
          try simp only [go_sem, s2.k, s2.r, s2.c, s2.p]
          refine seq_go ?_
          try simp only [go_sem, s2.k, s2.r, s2.c, s2.p]
          have hj := posF_to rfl rfl (ih0 a0 a1 (IntKind.i64.wrap (p0_0 + 1)) f2 g2 c2 s2 h2 _ h)
          refine lp_to hj (.one ⟨_, .done _, [], [], ?_⟩)
          clear hj
          try simp only [go_sem, s2.k, s2.r, s2.c, s2.p]
      · replace h := ifF (c := (decide (p0_0 < ((List.length a0 : Nat) : Int)))) hb2 h
        try simp only [go_sem, s2.k, s2.r, s2.c, s2.p]
        refine seq_go ?_
        try simp only [go_sem, s2.k, s2.r, s2.c, s2.p]
        replace h := Option.some.inj h
        obtain rfl := h
        simp only [go_sem, s2.k, s2.r, s2.c, s2.p]
theorem g_EqualFunc_ssint64_l1_ok (n : Nat) : (∀ (a0 : List (List Int)) (a1 : List (List Int)) (p0_0 : Int) (f2 : ((List Int) → (List Int) → Option Bool)) (g2 : FuncId) (c2 : List AV) (s2 : Still c2) (h2 : ∀ (y0 : List Int) (y1 : List Int) (q : Bool), f2 y0 y1 = some q → AC Try.prog g2 (.ro (List.map i64D y0) :: .ro (List.map i64D y1) :: c2) (.bool q)) (r : Bool), g_EqualFunc_ssint64_l1 n a0 a1 p0_0 f2 = some r → posF Try.prog Try.f189 [1, 1, 0, 1, 0] (.bool r) ⟨[(1, .ro (List.map (slD i64D) a1)), (2, .fn g2 c2), (15, .ro (List.map (slD i64D) a0)), (16, .int .i64 ((List.length a0 : Nat) : Int)), (17, .int .i64 p0_0)], [], []⟩) := (g_EqualFunc_ssint64_l1_all n)

theorem g_EqualFunc_ssint64_ok (a0 : List (List Int)) (a1 : List (List Int)) (f2 : ((List Int) → (List Int) → Option Bool)) (g2 : FuncId) (c2 : List AV) (s2 : Still c2) (h2 : ∀ (y0 : List Int) (y1 : List Int) (q : Bool), f2 y0 y1 = some q → AC Try.prog g2 (.ro (List.map i64D y0) :: .ro (List.map i64D y1) :: c2) (.bool q)) (r : Bool) (h : g_EqualFunc_ssint64 a0 a1 f2 = some r) : AC Try.prog 189 [.ro (List.map (slD i64D) a0), .ro (List.map (slD i64D) a1), .fn g2 c2] (.bool r) := by
  unfold g_EqualFunc_ssint64 at h
  refine ac_fn mixed Try.func189 rfl rfl rfl (by kernel_rfl) (by kernel_rfl) ?_
  try simp only [go_sem, s2.k, s2.r, s2.c, s2.p]
  refine cond_i (fun hb1 => ?_) (fun hb1 => ?_)
  · replace h := ifT (c := (!decide (((List.length a0 : Nat) : Int) = ((List.length a1 : Nat) : Int)))) hb1 h
    try simp only [go_sem, s2.k, s2.r, s2.c, s2.p]
    replace h := Option.some.inj h
    obtain rfl := h
    simp only [go_sem, s2.k, s2.r, s2.c, s2.p]
  · replace h := ifF (c := (!decide (((List.length a0 : Nat) : Int) = ((List.length a1 : Nat) : Int)))) hb1 h
    try simp only [go_sem, s2.k, s2.r, s2.c, s2.p]
    refine seq_go ?_
    try simp only [go_sem, s2.k, s2.r, s2.c, s2.p]
    have hj := posF_to rfl rfl (g_EqualFunc_ssint64_l1_ok fuel a0 a1 0 f2 g2 c2 s2 h2 _ h)
    refine loop_to hj (.one ⟨_, .done _, [], [], ?_⟩)
    clear hj
    try simp only [go_sem, s2.k, s2.r, s2.c, s2.p]
theorem i_SameCluster_ok (a0 : Cluster) (a1 : Cluster) (r : Bool) (h : i_SameCluster a0 a1 = some r) : AC Try.prog 102 [.agg (Cluster.avs a0), .agg (Cluster.avs a1)] (.bool r) := by
  unfold i_SameCluster at h
  refine ac_fn mixed Try.func102 rfl rfl rfl (by kernel_rfl) (by kernel_rfl) ?_
  try simp only [go_sem]
  replace h := bindE h
  obtain ⟨v2004, hv2004, h⟩ := h
  refine call_i (i_SameGrid_ok _ _ _ hv2004) ?_
  try simp only [go_sem]
  refine cond_i (fun hb1 => ?_) (fun hb1 => ?_)
  · replace h := ifT (c := v2004) hb1 h
    try simp only [go_sem]
    replace h := bindE h
    obtain ⟨v2010, hv2010, h⟩ := h
    refine call_i (g_EqualFunc_ssimpl_Parcel_ok _ _ _ 188 [] (Still.of rfl) (fun y0 y1 q hq => i_sameParcels_ok y0 y1  q hq) _ hv2010) ?_
    try simp only [go_sem]
    refine cond_i (fun hb2 => ?_) (fun hb2 => ?_)
    · replace h := ifT (c := v2010) hb2 h
      try simp only [go_sem]
      replace h := bindE h
      obtain ⟨v2017, hv2017, h⟩ := h
      refine call_i (g_EqualFunc_ssint64_ok _ _ _ 93 [] (Still.of rfl) (fun y0 y1 q hq => g_Equal_sint64_ok y0 y1  q hq) _ hv2017) ?_
      try simp only [go_sem]
      refine cond_i (fun hb3 => ?_) (fun hb3 => ?_)
      · replace h := ifT (c := v2017) hb3 h
        try simp only [go_sem]
        replace h := bindE h
        obtain ⟨v2024, hv2024, h⟩ := h
        refine call_i (g_Equal_sint64_ok _ _ _ hv2024) ?_
        try simp only [go_sem]
        refine cond_i (fun hb4 => ?_) (fun hb4 => ?_)
        · replace h := ifT (c := v2024) hb4 h
          try simp only [go_sem]
          replace h := bindE h
          obtain ⟨v2031, hv2031, h⟩ := h
          refine call_i (g_Equal_sint64_ok _ _ _ hv2031) ?_
          try simp only [go_sem]
          refine seq_go ?_
          try simp only [go_sem]
          replace h := Option.some.inj h
          obtain rfl := h
          simp only [go_sem]
        · replace h := ifF (c := v2024) hb4 h
          try simp only [go_sem]
          refine seq_go ?_
          try simp only [go_sem]
          replace h := Option.some.inj h
          obtain rfl := h
          simp only [go_sem]
      · replace h := ifF (c := v2017) hb3 h
        try simp only [go_sem]
        refine seq_go ?_
        try simp only [go_sem]
        replace h := Option.some.inj h
        obtain rfl := h
        simp only [go_sem]
    · replace h := ifF (c := v2010) hb2 h
      try simp only [go_sem]
      refine seq_go ?_
      try simp only [go_sem]
      replace h := Option.some.inj h
      obtain rfl := h
      simp only [go_sem]
  · replace h := ifF (c := v2004) hb1 h
    try simp only [go_sem]
    refine seq_go ?_
    try simp only [go_sem]
    replace h := Option.some.inj h
    obtain rfl := h
    simp only [go_sem]
theorem g_Equal_sbool_l1_all (n : Nat) : (∀ (a0 : List Bool) (a1 : List Bool) (p0_0 : Int) (r : Bool), g_Equal_sbool_l1 n a0 a1 p0_0 = some r → posF Try.prog Try.f254 [1, 1, 0, 1, 0] (.bool r) ⟨[(0, .ro (List.map boolD a0)), (1, .ro (List.map boolD a1)), (12, .int .i64 ((List.length a0 : Nat) : Int)), (13, .int .i64 p0_0)], [], []⟩) := by
  induction n with
  | zero => exact ((fun _ _ _ _ h => by rw [g_Equal_sbool_l1] at h; cases h))
  | succ n ih =>
    have ih0 := ih
    · intro a0 a1 p0_0 r h
      rw [g_Equal_sbool_l1] at h
      refine posF_of rfl rfl ?_
      try simp only [go_sem]
      refine loop_i ?_
      try simp only [go_sem]
      refine cond_i (fun hb2 => ?_) (fun hb2 => ?_)
      · replace h := ifT (c := (decide (p0_0 < ((List.length a0 : Nat) : Int)))) hb2 h
        try simp only [go_sem]
        refine seq_go ?_
        try simp only [go_sem]
        refine draw_i [] .fin (by kernel_rfl) ?_
        try simp only [go_sem]
        replace h := bindE h
        obtain ⟨v7002, hv7002, h⟩ := h
        refine idx_m hv7002 rfl ?_
        try simp only [go_sem]
        replace h := bindE h
        obtain ⟨v7006, hv7006, h⟩ := h
        refine idx_m hv7006 rfl ?_
        try simp only [go_sem]
        refine seq_go ?_
        try simp only [go_sem]
        refine cond_i (fun hb3 => ?_) (fun hb3 => ?_)
        · replace h := ifT (c := (!(v7002 == v7006))) hb3 h
          try simp only [go_sem]
          replace h := Option.some.inj h
          obtain rfl := h
          simp only [go_sem]
        · replace h := ifF (c := (!(v7002 == v7006))) hb3 h
          try simp only [go_sem]
          refine seq_go ?_
          try simp only [go_sem]
          have hj := posF_to rfl rfl (ih0 a0 a1 (IntKind.i64.wrap (p0_0 + 1)) _ h)
          refine lp_to hj (.one ⟨_, .done _, [], [], ?_⟩)
          clear hj
          try simp only [go_sem]
      · replace h := ifF (c := (decide (p0_0 < ((List.length a0 : Nat) : Int)))) hb2 h
        try simp only [go_sem]
        refine seq_go ?_
        try simp only [go_sem]
        replace h := Option.some.inj h
        obtain rfl := h
        simp only [go_sem]
theorem g_Equal_sbool_l1_ok (n : Nat) : (∀ (a0 : List Bool) (a1 : List Bool) (p0_0 : Int) (r : Bool), g_Equal_sbool_l1 n a0 a1 p0_0 = some r → posF Try.prog Try.f254 [1, 1, 0, 1, 0] (.bool r) ⟨[(0, .ro (List.map boolD a0)), (1, .ro (List.map boolD a1)), (12, .int .i64 ((List.length a0 : Nat) : Int)), (13, .int .i64 p0_0)], [], []⟩) := (g_Equal_sbool_l1_all n)

theorem g_Equal_sbool_ok (a0 : List Bool) (a1 : List Bool) (r : Bool) (h : g_Equal_sbool a0 a1 = some r) : AC Try.prog 254 [.ro (List.map boolD a0), .ro (List.map boolD a1)] (.bool r) := by
  unfold g_Equal_sbool at h
  refine ac_fn mixed Try.func254 rfl rfl rfl (by kernel_rfl) (by kernel_rfl) ?_
  try simp only [go_sem]
  refine cond_i (fun hb1 => ?_) (fun hb1 => ?_)
  · replace h := ifT (c := (!decide (((List.length a0 : Nat) : Int) = ((List.length a1 : Nat) : Int)))) hb1 h
    try simp only [go_sem]
    replace h := Option.some.inj h
    obtain rfl := h
    simp only [go_sem]
  · replace h := ifF (c := (!decide (((List.length a0 : Nat) : Int) = ((List.length a1 : Nat) : Int)))) hb1 h
    try simp only [go_sem]
    refine seq_go ?_
    try simp only [go_sem]
    have hj := posF_to rfl rfl (g_Equal_sbool_l1_ok fuel a0 a1 0 _ h)
    refine loop_to hj (.one ⟨_, .done _, [], [], ?_⟩)
    clear hj
    try simp only [go_sem]
theorem i_sameShot_ok (a0 : Shot) (a1 : Shot) (r : Bool) (h : i_sameShot a0 a1 = some r) : AC Try.prog 185 [.agg (Shot.avs a0), .agg (Shot.avs a1)] (.bool r) := by
  unfold i_sameShot at h
  refine ac_fn mixed Try.func185 rfl rfl rfl (by kernel_rfl) (by kernel_rfl) ?_
  try simp only [go_sem]
  replace h := bindE h
  obtain ⟨v2004, hv2004, h⟩ := h
  refine call_i (g_Equal_sbool_ok _ _ _ hv2004) ?_
  try simp only [go_sem]
  refine cond_i (fun hb1 => ?_) (fun hb1 => ?_)
  · replace h := ifT (c := v2004) hb1 h
    try simp only [go_sem]
    replace h := bindE h
    obtain ⟨v2010, hv2010, h⟩ := h
    refine call_i (g_EqualFunc_simpl_Shard_ok _ _ _ 256 [] (Still.of rfl) (fun y0 y1 q hq => i_SameShard_ok y0 y1  q hq) _ hv2010) ?_
    try simp only [go_sem]
    refine cond_i (fun hb2 => ?_) (fun hb2 => ?_)
    · replace h := ifT (c := v2010) hb2 h
      try simp only [go_sem]
      replace h := bindE h
      obtain ⟨v2017, hv2017, h⟩ := h
      refine call_i (g_EqualFunc_ssint64_ok _ _ _ 93 [] (Still.of rfl) (fun y0 y1 q hq => g_Equal_sint64_ok y0 y1  q hq) _ hv2017) ?_
      try simp only [go_sem]
      refine cond_i (fun hb3 => ?_) (fun hb3 => ?_)
      · replace h := ifT (c := v2017) hb3 h
        try simp only [go_sem]
        replace h := bindE h
        obtain ⟨v2024, hv2024, h⟩ := h
        refine call_i (g_Equal_sbool_ok _ _ _ hv2024) ?_
        try simp only [go_sem]
        refine cond_i (fun hb4 => ?_) (fun hb4 => ?_)
        · replace h := ifT (c := v2024) hb4 h
          try simp only [go_sem]
          replace h := bindE h
          obtain ⟨v2031, hv2031, h⟩ := h
          refine call_i (g_EqualFunc_ssimpl_Parcel_ok _ _ _ 188 [] (Still.of rfl) (fun y0 y1 q hq => i_sameParcels_ok y0 y1  q hq) _ hv2031) ?_
          try simp only [go_sem]
          refine seq_go ?_
          try simp only [go_sem]
          replace h := Option.some.inj h
          obtain rfl := h
          simp only [go_sem]
        · replace h := ifF (c := v2024) hb4 h
          try simp only [go_sem]
          refine seq_go ?_
          try simp only [go_sem]
          replace h := Option.some.inj h
          obtain rfl := h
          simp only [go_sem]
      · replace h := ifF (c := v2017) hb3 h
        try simp only [go_sem]
        refine seq_go ?_
        try simp only [go_sem]
        replace h := Option.some.inj h
        obtain rfl := h
        simp only [go_sem]
    · replace h := ifF (c := v2010) hb2 h
      try simp only [go_sem]
      refine seq_go ?_
      try simp only [go_sem]
      replace h := Option.some.inj h
      obtain rfl := h
      simp only [go_sem]
  · replace h := ifF (c := v2004) hb1 h
    try simp only [go_sem]
    refine seq_go ?_
    try simp only [go_sem]
    replace h := Option.some.inj h
    obtain rfl := h
    simp only [go_sem]
theorem i_SameWatched_ok (a0 : Watched) (a1 : Watched) (r : Bool) (h : i_SameWatched a0 a1 = some r) : AC Try.prog 101 [.agg (Watched.avs a0), .agg (Watched.avs a1)] (.bool r) := by
  unfold i_SameWatched at h
  refine ac_fn mixed Try.func101 rfl rfl rfl (by kernel_rfl) (by kernel_rfl) ?_
  try simp only [go_sem]
  replace h := bindE h
  obtain ⟨v2004, hv2004, h⟩ := h
  refine call_i (i_SameCluster_ok _ _ _ hv2004) ?_
  try simp only [go_sem]
  refine cond_i (fun hb1 => ?_) (fun hb1 => ?_)
  · replace h := ifT (c := v2004) hb1 h
    try simp only [go_sem]
    replace h := bindE h
    obtain ⟨v2010, hv2010, h⟩ := h
    refine call_i (i_sameShot_ok _ _ _ hv2010) ?_
    try simp only [go_sem]
    refine seq_go ?_
    try simp only [go_sem]
    replace h := Option.some.inj h
    obtain rfl := h
    simp only [go_sem]
  · replace h := ifF (c := v2004) hb1 h
    try simp only [go_sem]
    refine seq_go ?_
    try simp only [go_sem]
    replace h := Option.some.inj h
    obtain rfl := h
    simp only [go_sem]
theorem i_SameService_ok (a0 : Service) (a1 : Service) (r : Bool) (h : i_SameService a0 a1 = some r) : AC Try.prog 39 [.agg (Service.avs a0), .agg (Service.avs a1)] (.bool r) := by
  unfold i_SameService at h
  refine ac_fn mixed Try.func39 rfl rfl rfl (by kernel_rfl) (by kernel_rfl) ?_
  try simp only [go_sem]
  replace h := bindE h
  obtain ⟨v2004, hv2004, h⟩ := h
  refine call_i (i_SameWatched_ok _ _ _ hv2004) ?_
  try simp only [go_sem]
  refine cond_i (fun hb1 => ?_) (fun hb1 => ?_)
  · replace h := ifT (c := v2004) hb1 h
    try simp only [go_sem]
    replace h := bindE h
    obtain ⟨v2010, hv2010, h⟩ := h
    refine call_i (i_SameCluster_ok _ _ _ hv2010) ?_
    try simp only [go_sem]
    refine cond_i (fun hb2 => ?_) (fun hb2 => ?_)
    · replace h := ifT (c := v2010) hb2 h
      try simp only [go_sem]
      refine cond_i (fun hb3 => ?_) (fun hb3 => ?_)
      · replace h := ifT (c := (decide (a0.shots = a1.shots))) hb3 h
        try simp only [go_sem]
        refine seq_go ?_
        try simp only [go_sem]
        replace h := Option.some.inj h
        obtain rfl := h
        simp only [go_sem]
      · replace h := ifF (c := (decide (a0.shots = a1.shots))) hb3 h
        try simp only [go_sem]
        refine seq_go ?_
        try simp only [go_sem]
        replace h := Option.some.inj h
        obtain rfl := h
        simp only [go_sem]
    · replace h := ifF (c := v2010) hb2 h
      try simp only [go_sem]
      refine seq_go ?_
      try simp only [go_sem]
      replace h := Option.some.inj h
      obtain rfl := h
      simp only [go_sem]
  · replace h := ifF (c := v2004) hb1 h
    try simp only [go_sem]
    refine seq_go ?_
    try simp only [go_sem]
    replace h := Option.some.inj h
    obtain rfl := h
    simp only [go_sem]
theorem l_eqInt64SS_l1_all (n : Nat) : (∀ (a0 : List (List Int)) (a1 : List (List Int)) (p0_0 : Int) (r : Bool), l_eqInt64SS_l1 n a0 a1 p0_0 = some r → posF Try.prog Try.f56 [1, 1, 0, 1, 0] (.bool r) ⟨[(0, .ro (List.map (slD i64D) a0)), (1, .ro (List.map (slD i64D) a1)), (5, .int .i64 p0_0)], [], []⟩) := by
  induction n with
  | zero => exact ((fun _ _ _ _ h => by rw [l_eqInt64SS_l1] at h; cases h))
  | succ n ih =>
    have ih0 := ih
    · intro a0 a1 p0_0 r h
      rw [l_eqInt64SS_l1] at h
      refine posF_of rfl rfl ?_
      try simp only [go_sem]
      refine loop_i ?_
      try simp only [go_sem]
      refine cond_i (fun hb2 => ?_) (fun hb2 => ?_)
      · replace h := ifT (c := (decide (p0_0 < ((List.length a0 : Nat) : Int)))) hb2 h
        try simp only [go_sem]
        refine seq_go ?_
        try simp only [go_sem]
        refine draw_i [] .fin (by kernel_rfl) ?_
        try simp only [go_sem]
        replace h := bindE h
        obtain ⟨v7002, hv7002, h⟩ := h
        refine idx_m hv7002 rfl ?_
        try simp only [go_sem]
        replace h := bindE h
        obtain ⟨v7006, hv7006, h⟩ := h
        refine idx_m hv7006 rfl ?_
        try simp only [go_sem]
        replace h := bindE h
        obtain ⟨v7008, hv7008, h⟩ := h
        refine call_i (l_eqInt64S_ok _ _ _ hv7008) ?_
        try simp only [go_sem]
        refine seq_go ?_
        try simp only [go_sem]
        refine cond_i (fun hb3 => ?_) (fun hb3 => ?_)
        · replace h := ifT (c := (!v7008)) hb3 h
          try simp only [go_sem]
          replace h := Option.some.inj h
          obtain rfl := h
          simp only [go_sem]
        · replace h := ifF (c := (!v7008)) hb3 h
          try simp only [go_sem]
          refine seq_go ?_
          try simp only [go_sem]
          have hj := posF_to rfl rfl (ih0 a0 a1 (IntKind.i64.wrap (p0_0 + 1)) _ h)
          refine lp_to hj (.one ⟨_, .done _, [], [], ?_⟩)
          clear hj
          try simp only [go_sem]
      · replace h := ifF (c := (decide (p0_0 < ((List.length a0 : Nat) : Int)))) hb2 h
        try simp only [go_sem]
        refine seq_go ?_
        try simp only [go_sem]
        replace h := Option.some.inj h
        obtain rfl := h
        simp only [go_sem]
theorem l_eqInt64SS_l1_ok (n : Nat) : (∀ (a0 : List (List Int)) (a1 : List (List Int)) (p0_0 : Int) (r : Bool), l_eqInt64SS_l1 n a0 a1 p0_0 = some r → posF Try.prog Try.f56 [1, 1, 0, 1, 0] (.bool r) ⟨[(0, .ro (List.map (slD i64D) a0)), (1, .ro (List.map (slD i64D) a1)), (5, .int .i64 p0_0)], [], []⟩) := (l_eqInt64SS_l1_all n)

theorem l_eqInt64SS_ok (a0 : List (List Int)) (a1 : List (List Int)) (r : Bool) (h : l_eqInt64SS a0 a1 = some r) : AC Try.prog 56 [.ro (List.map (slD i64D) a0), .ro (List.map (slD i64D) a1)] (.bool r) := by
  unfold l_eqInt64SS at h
  refine ac_fn mixed Try.func56 rfl rfl rfl (by kernel_rfl) (by kernel_rfl) ?_
  try simp only [go_sem]
  refine cond_i (fun hb1 => ?_) (fun hb1 => ?_)
  · replace h := ifT (c := (!decide (((List.length a0 : Nat) : Int) = ((List.length a1 : Nat) : Int)))) hb1 h
    try simp only [go_sem]
    replace h := Option.some.inj h
    obtain rfl := h
    simp only [go_sem]
  · replace h := ifF (c := (!decide (((List.length a0 : Nat) : Int) = ((List.length a1 : Nat) : Int)))) hb1 h
    try simp only [go_sem]
    refine seq_go ?_
    try simp only [go_sem]
    have hj := posF_to rfl rfl (l_eqInt64SS_l1_ok fuel a0 a1 0 _ h)
    refine loop_to hj (.one ⟨_, .done _, [], [], ?_⟩)
    clear hj
    try simp only [go_sem]
theorem l_eqAddress_ok (a0 : Address) (a1 : Address) (r : Bool) (h : l_eqAddress a0 a1 = some r) : AC Try.prog 261 [.agg (Address.avs a0), .agg (Address.avs a1)] (.bool r) := by
  unfold l_eqAddress at h
  refine ac_fn mixed Try.func261 rfl rfl rfl (by kernel_rfl) (by kernel_rfl) ?_
  try simp only [go_sem]
  refine cond_i (fun hb1 => ?_) (fun hb1 => ?_)
  · replace h := ifT (c := (!decide (a0.machine = a1.machine))) hb1 h
    try simp only [go_sem]
    replace h := Option.some.inj h
    obtain rfl := h
    simp only [go_sem]
  · replace h := ifF (c := (!decide (a0.machine = a1.machine))) hb1 h
    try simp only [go_sem]
    refine seq_go ?_
    try simp only [go_sem]
    refine cond_i (fun hb2 => ?_) (fun hb2 => ?_)
    · replace h := ifT (c := (!decide (a0.kind = a1.kind))) hb2 h
      try simp only [go_sem]
      replace h := Option.some.inj h
      obtain rfl := h
      simp only [go_sem]
    · replace h := ifF (c := (!decide (a0.kind = a1.kind))) hb2 h
      try simp only [go_sem]
      refine seq_go ?_
      try simp only [go_sem]
      refine cond_i (fun hb3 => ?_) (fun hb3 => ?_)
      · replace h := ifT (c := (!decide (a0.index = a1.index))) hb3 h
        try simp only [go_sem]
        replace h := Option.some.inj h
        obtain rfl := h
        simp only [go_sem]
      · replace h := ifF (c := (!decide (a0.index = a1.index))) hb3 h
        try simp only [go_sem]
        refine seq_go ?_
        try simp only [go_sem]
        replace h := Option.some.inj h
        obtain rfl := h
        simp only [go_sem]
theorem l_eqAddressS_l1_all (n : Nat) : (∀ (a0 : List Address) (a1 : List Address) (p0_0 : Int) (r : Bool), l_eqAddressS_l1 n a0 a1 p0_0 = some r → posF Try.prog Try.f381 [1, 1, 0, 1, 0] (.bool r) ⟨[(0, .ro (List.map Address.ds a0)), (1, .ro (List.map Address.ds a1)), (5, .int .i64 p0_0)], [], []⟩) := by
  induction n with
  | zero => exact ((fun _ _ _ _ h => by rw [l_eqAddressS_l1] at h; cases h))
  | succ n ih =>
    have ih0 := ih
    · intro a0 a1 p0_0 r h
      rw [l_eqAddressS_l1] at h
      refine posF_of rfl rfl ?_
      try simp only [go_sem]
      refine loop_i ?_
      try simp only [go_sem]
      refine cond_i (fun hb2 => ?_) (fun hb2 => ?_)
      · replace h := ifT (c := (decide (p0_0 < ((List.length a0 : Nat) : Int)))) hb2 h
        try simp only [go_sem]
        refine seq_go ?_
        try simp only [go_sem]
        refine draw_i [] .fin (by kernel_rfl) ?_
        try simp only [go_sem]
        replace h := bindE h
        obtain ⟨v7002, hv7002, h⟩ := h
        refine idx_m hv7002 (Address.ds_len _) ?_
        try simp only [go_sem]
        replace h := bindE h
        obtain ⟨v7006, hv7006, h⟩ := h
        refine idx_m hv7006 (Address.ds_len _) ?_
        try simp only [go_sem]
        replace h := bindE h
        obtain ⟨v7008, hv7008, h⟩ := h
        refine call_i (l_eqAddress_ok _ _ _ hv7008) ?_
        try simp only [go_sem]
        refine seq_go ?_
        try simp only [go_sem]
        refine cond_i (fun hb3 => ?_) (fun hb3 => ?_)
        · replace h := ifT (c := (!v7008)) hb3 h
          try simp only [go_sem]
          replace h := Option.some.inj h
          obtain rfl := h
          simp only [go_sem]
        · replace h := ifF (c := (!v7008)) hb3 h
          try simp only [go_sem]
          refine seq_go ?_
          try simp only [go_sem]
          have hj := posF_to rfl rfl (ih0 a0 a1 (IntKind.i64.wrap (p0_0 + 1)) _ h)
          refine lp_to hj (.one ⟨_, .done _, [], [], ?_⟩)
          clear hj
          try simp only [go_sem]
      · replace h := ifF (c := (decide (p0_0 < ((List.length a0 : Nat) : Int)))) hb2 h
        try simp only [go_sem]
        refine seq_go ?_
        try simp only [go_sem]
        replace h := Option.some.inj h
        obtain rfl := h
        simp only [go_sem]
theorem l_eqAddressS_l1_ok (n : Nat) : (∀ (a0 : List Address) (a1 : List Address) (p0_0 : Int) (r : Bool), l_eqAddressS_l1 n a0 a1 p0_0 = some r → posF Try.prog Try.f381 [1, 1, 0, 1, 0] (.bool r) ⟨[(0, .ro (List.map Address.ds a0)), (1, .ro (List.map Address.ds a1)), (5, .int .i64 p0_0)], [], []⟩) := (l_eqAddressS_l1_all n)

theorem l_eqAddressS_ok (a0 : List Address) (a1 : List Address) (r : Bool) (h : l_eqAddressS a0 a1 = some r) : AC Try.prog 381 [.ro (List.map Address.ds a0), .ro (List.map Address.ds a1)] (.bool r) := by
  unfold l_eqAddressS at h
  refine ac_fn mixed Try.func381 rfl rfl rfl (by kernel_rfl) (by kernel_rfl) ?_
  try simp only [go_sem]
  refine cond_i (fun hb1 => ?_) (fun hb1 => ?_)
  · replace h := ifT (c := (!decide (((List.length a0 : Nat) : Int) = ((List.length a1 : Nat) : Int)))) hb1 h
    try simp only [go_sem]
    replace h := Option.some.inj h
    obtain rfl := h
    simp only [go_sem]
  · replace h := ifF (c := (!decide (((List.length a0 : Nat) : Int) = ((List.length a1 : Nat) : Int)))) hb1 h
    try simp only [go_sem]
    refine seq_go ?_
    try simp only [go_sem]
    have hj := posF_to rfl rfl (l_eqAddressS_l1_ok fuel a0 a1 0 _ h)
    refine loop_to hj (.one ⟨_, .done _, [], [], ?_⟩)
    clear hj
    try simp only [go_sem]
theorem l_eqShardCell_ok (a0 : ShardCell) (a1 : ShardCell) (r : Bool) (h : l_eqShardCell a0 a1 = some r) : AC Try.prog 361 [.agg (ShardCell.avs a0), .agg (ShardCell.avs a1)] (.bool r) := by
  unfold l_eqShardCell at h
  refine ac_fn mixed Try.func361 rfl rfl rfl (by kernel_rfl) (by kernel_rfl) ?_
  try simp only [go_sem]
  refine cond_i (fun hb1 => ?_) (fun hb1 => ?_)
  · replace h := ifT (c := (!decide (a0.kind = a1.kind))) hb1 h
    try simp only [go_sem]
    replace h := Option.some.inj h
    obtain rfl := h
    simp only [go_sem]
  · replace h := ifF (c := (!decide (a0.kind = a1.kind))) hb1 h
    try simp only [go_sem]
    refine seq_go ?_
    try simp only [go_sem]
    refine cond_i (fun hb2 => ?_) (fun hb2 => ?_)
    · replace h := ifT (c := (!decide (a0.level = a1.level))) hb2 h
      try simp only [go_sem]
      replace h := Option.some.inj h
      obtain rfl := h
      simp only [go_sem]
    · replace h := ifF (c := (!decide (a0.level = a1.level))) hb2 h
      try simp only [go_sem]
      refine seq_go ?_
      try simp only [go_sem]
      refine cond_i (fun hb3 => ?_) (fun hb3 => ?_)
      · replace h := ifT (c := (!decide (a0.value = a1.value))) hb3 h
        try simp only [go_sem]
        replace h := Option.some.inj h
        obtain rfl := h
        simp only [go_sem]
      · replace h := ifF (c := (!decide (a0.value = a1.value))) hb3 h
        try simp only [go_sem]
        refine seq_go ?_
        try simp only [go_sem]
        replace h := bindE h
        obtain ⟨v8004, hv8004, h⟩ := h
        refine call_i (l_eqInt64S_ok _ _ _ hv8004) ?_
        try simp only [go_sem]
        refine cond_i (fun hb4 => ?_) (fun hb4 => ?_)
        · replace h := ifT (c := (!v8004)) hb4 h
          try simp only [go_sem]
          replace h := Option.some.inj h
          obtain rfl := h
          simp only [go_sem]
        · replace h := ifF (c := (!v8004)) hb4 h
          try simp only [go_sem]
          refine seq_go ?_
          try simp only [go_sem]
          replace h := bindE h
          obtain ⟨v10004, hv10004, h⟩ := h
          refine call_i (l_eqAddressS_ok _ _ _ hv10004) ?_
          try simp only [go_sem]
          refine cond_i (fun hb5 => ?_) (fun hb5 => ?_)
          · replace h := ifT (c := (!v10004)) hb5 h
            try simp only [go_sem]
            replace h := Option.some.inj h
            obtain rfl := h
            simp only [go_sem]
          · replace h := ifF (c := (!v10004)) hb5 h
            try simp only [go_sem]
            refine seq_go ?_
            try simp only [go_sem]
            replace h := Option.some.inj h
            obtain rfl := h
            simp only [go_sem]
theorem l_eqShardCellS_l1_all (n : Nat) : (∀ (a0 : List ShardCell) (a1 : List ShardCell) (p0_0 : Int) (r : Bool), l_eqShardCellS_l1 n a0 a1 p0_0 = some r → posF Try.prog Try.f358 [1, 1, 0, 1, 0] (.bool r) ⟨[(0, .ro (List.map ShardCell.ds a0)), (1, .ro (List.map ShardCell.ds a1)), (5, .int .i64 p0_0)], [], []⟩) := by
  induction n with
  | zero => exact ((fun _ _ _ _ h => by rw [l_eqShardCellS_l1] at h; cases h))
  | succ n ih =>
    have ih0 := ih
    · intro a0 a1 p0_0 r h
      rw [l_eqShardCellS_l1] at h
      refine posF_of rfl rfl ?_
      try simp only [go_sem]
      refine loop_i ?_
      try simp only [go_sem]
      refine cond_i (fun hb2 => ?_) (fun hb2 => ?_)
      · replace h := ifT (c := (decide (p0_0 < ((List.length a0 : Nat) : Int)))) hb2 h
        try simp only [go_sem]
        refine seq_go ?_
        try simp only [go_sem]
        refine draw_i [] .fin (by kernel_rfl) ?_
        try simp only [go_sem]
        replace h := bindE h
        obtain ⟨v7002, hv7002, h⟩ := h
        refine idx_m hv7002 (ShardCell.ds_len _) ?_
        try simp only [go_sem]
        replace h := bindE h
        obtain ⟨v7006, hv7006, h⟩ := h
        refine idx_m hv7006 (ShardCell.ds_len _) ?_
        try simp only [go_sem]
        replace h := bindE h
        obtain ⟨v7008, hv7008, h⟩ := h
        refine call_i (l_eqShardCell_ok _ _ _ hv7008) ?_
        try simp only [go_sem]
        refine seq_go ?_
        try simp only [go_sem]
        refine cond_i (fun hb3 => ?_) (fun hb3 => ?_)
        · replace h := ifT (c := (!v7008)) hb3 h
          try simp only [go_sem]
          replace h := Option.some.inj h
          obtain rfl := h
          simp only [go_sem]
        · replace h := ifF (c := (!v7008)) hb3 h
          try simp only [go_sem]
          refine seq_go ?_
          try simp only [go_sem]
          have hj := posF_to rfl rfl (ih0 a0 a1 (IntKind.i64.wrap (p0_0 + 1)) _ h)
          refine lp_to hj (.one ⟨_, .done _, [], [], ?_⟩)
          clear hj
          try simp only [go_sem]
      · replace h := ifF (c := (decide (p0_0 < ((List.length a0 : Nat) : Int)))) hb2 h
        try simp only [go_sem]
        refine seq_go ?_
        try simp only [go_sem]
        replace h := Option.some.inj h
        obtain rfl := h
        simp only [go_sem]
theorem l_eqShardCellS_l1_ok (n : Nat) : (∀ (a0 : List ShardCell) (a1 : List ShardCell) (p0_0 : Int) (r : Bool), l_eqShardCellS_l1 n a0 a1 p0_0 = some r → posF Try.prog Try.f358 [1, 1, 0, 1, 0] (.bool r) ⟨[(0, .ro (List.map ShardCell.ds a0)), (1, .ro (List.map ShardCell.ds a1)), (5, .int .i64 p0_0)], [], []⟩) := (l_eqShardCellS_l1_all n)

theorem l_eqShardCellS_ok (a0 : List ShardCell) (a1 : List ShardCell) (r : Bool) (h : l_eqShardCellS a0 a1 = some r) : AC Try.prog 358 [.ro (List.map ShardCell.ds a0), .ro (List.map ShardCell.ds a1)] (.bool r) := by
  unfold l_eqShardCellS at h
  refine ac_fn mixed Try.func358 rfl rfl rfl (by kernel_rfl) (by kernel_rfl) ?_
  try simp only [go_sem]
  refine cond_i (fun hb1 => ?_) (fun hb1 => ?_)
  · replace h := ifT (c := (!decide (((List.length a0 : Nat) : Int) = ((List.length a1 : Nat) : Int)))) hb1 h
    try simp only [go_sem]
    replace h := Option.some.inj h
    obtain rfl := h
    simp only [go_sem]
  · replace h := ifF (c := (!decide (((List.length a0 : Nat) : Int) = ((List.length a1 : Nat) : Int)))) hb1 h
    try simp only [go_sem]
    refine seq_go ?_
    try simp only [go_sem]
    have hj := posF_to rfl rfl (l_eqShardCellS_l1_ok fuel a0 a1 0 _ h)
    refine loop_to hj (.one ⟨_, .done _, [], [], ?_⟩)
    clear hj
    try simp only [go_sem]
theorem l_eqShardVar_ok (a0 : ShardVar) (a1 : ShardVar) (r : Bool) (h : l_eqShardVar a0 a1 = some r) : AC Try.prog 379 [.agg (ShardVar.avs a0), .agg (ShardVar.avs a1)] (.bool r) := by
  unfold l_eqShardVar at h
  refine ac_fn mixed Try.func379 rfl rfl rfl (by kernel_rfl) (by kernel_rfl) ?_
  try simp only [go_sem]
  refine cond_i (fun hb1 => ?_) (fun hb1 => ?_)
  · replace h := ifT (c := (!(a0.used == a1.used))) hb1 h
    try simp only [go_sem]
    replace h := Option.some.inj h
    obtain rfl := h
    simp only [go_sem]
  · replace h := ifF (c := (!(a0.used == a1.used))) hb1 h
    try simp only [go_sem]
    refine seq_go ?_
    try simp only [go_sem]
    refine cond_i (fun hb2 => ?_) (fun hb2 => ?_)
    · replace h := ifT (c := (!(a0.full == a1.full))) hb2 h
      try simp only [go_sem]
      replace h := Option.some.inj h
      obtain rfl := h
      simp only [go_sem]
    · replace h := ifF (c := (!(a0.full == a1.full))) hb2 h
      try simp only [go_sem]
      refine seq_go ?_
      try simp only [go_sem]
      replace h := bindE h
      obtain ⟨v6004, hv6004, h⟩ := h
      refine call_i (l_eqAddress_ok _ _ _ hv6004) ?_
      try simp only [go_sem]
      refine cond_i (fun hb3 => ?_) (fun hb3 => ?_)
      · replace h := ifT (c := (!v6004)) hb3 h
        try simp only [go_sem]
        replace h := Option.some.inj h
        obtain rfl := h
        simp only [go_sem]
      · replace h := ifF (c := (!v6004)) hb3 h
        try simp only [go_sem]
        refine seq_go ?_
        try simp only [go_sem]
        replace h := Option.some.inj h
        obtain rfl := h
        simp only [go_sem]
theorem l_eqShardVarS_l1_all (n : Nat) : (∀ (a0 : List ShardVar) (a1 : List ShardVar) (p0_0 : Int) (r : Bool), l_eqShardVarS_l1 n a0 a1 p0_0 = some r → posF Try.prog Try.f359 [1, 1, 0, 1, 0] (.bool r) ⟨[(0, .ro (List.map ShardVar.ds a0)), (1, .ro (List.map ShardVar.ds a1)), (5, .int .i64 p0_0)], [], []⟩) := by
  induction n with
  | zero => exact ((fun _ _ _ _ h => by rw [l_eqShardVarS_l1] at h; cases h))
  | succ n ih =>
    have ih0 := ih
    · intro a0 a1 p0_0 r h
      rw [l_eqShardVarS_l1] at h
      refine posF_of rfl rfl ?_
      try simp only [go_sem]
      refine loop_i ?_
      try simp only [go_sem]
      refine cond_i (fun hb2 => ?_) (fun hb2 => ?_)
      · replace h := ifT (c := (decide (p0_0 < ((List.length a0 : Nat) : Int)))) hb2 h
        try simp only [go_sem]
        refine seq_go ?_
        try simp only [go_sem]
        refine draw_i [] .fin (by kernel_rfl) ?_
        try simp only [go_sem]
        replace h := bindE h
        obtain ⟨v7002, hv7002, h⟩ := h
        refine idx_m hv7002 (ShardVar.ds_len _) ?_
        try simp only [go_sem]
        replace h := bindE h
        obtain ⟨v7006, hv7006, h⟩ := h
        refine idx_m hv7006 (ShardVar.ds_len _) ?_
        try simp only [go_sem]
        replace h := bindE h
        obtain ⟨v7008, hv7008, h⟩ := h
        refine call_i (l_eqShardVar_ok _ _ _ hv7008) ?_
        try simp only [go_sem]
        refine seq_go ?_
        try simp only [go_sem]
        refine cond_i (fun hb3 => ?_) (fun hb3 => ?_)
        · replace h := ifT (c := (!v7008)) hb3 h
          try simp only [go_sem]
          replace h := Option.some.inj h
          obtain rfl := h
          simp only [go_sem]
        · replace h := ifF (c := (!v7008)) hb3 h
          try simp only [go_sem]
          refine seq_go ?_
          try simp only [go_sem]
          have hj := posF_to rfl rfl (ih0 a0 a1 (IntKind.i64.wrap (p0_0 + 1)) _ h)
          refine lp_to hj (.one ⟨_, .done _, [], [], ?_⟩)
          clear hj
          try simp only [go_sem]
      · replace h := ifF (c := (decide (p0_0 < ((List.length a0 : Nat) : Int)))) hb2 h
        try simp only [go_sem]
        refine seq_go ?_
        try simp only [go_sem]
        replace h := Option.some.inj h
        obtain rfl := h
        simp only [go_sem]
theorem l_eqShardVarS_l1_ok (n : Nat) : (∀ (a0 : List ShardVar) (a1 : List ShardVar) (p0_0 : Int) (r : Bool), l_eqShardVarS_l1 n a0 a1 p0_0 = some r → posF Try.prog Try.f359 [1, 1, 0, 1, 0] (.bool r) ⟨[(0, .ro (List.map ShardVar.ds a0)), (1, .ro (List.map ShardVar.ds a1)), (5, .int .i64 p0_0)], [], []⟩) := (l_eqShardVarS_l1_all n)

theorem l_eqShardVarS_ok (a0 : List ShardVar) (a1 : List ShardVar) (r : Bool) (h : l_eqShardVarS a0 a1 = some r) : AC Try.prog 359 [.ro (List.map ShardVar.ds a0), .ro (List.map ShardVar.ds a1)] (.bool r) := by
  unfold l_eqShardVarS at h
  refine ac_fn mixed Try.func359 rfl rfl rfl (by kernel_rfl) (by kernel_rfl) ?_
  try simp only [go_sem]
  refine cond_i (fun hb1 => ?_) (fun hb1 => ?_)
  · replace h := ifT (c := (!decide (((List.length a0 : Nat) : Int) = ((List.length a1 : Nat) : Int)))) hb1 h
    try simp only [go_sem]
    replace h := Option.some.inj h
    obtain rfl := h
    simp only [go_sem]
  · replace h := ifF (c := (!decide (((List.length a0 : Nat) : Int) = ((List.length a1 : Nat) : Int)))) hb1 h
    try simp only [go_sem]
    refine seq_go ?_
    try simp only [go_sem]
    have hj := posF_to rfl rfl (l_eqShardVarS_l1_ok fuel a0 a1 0 _ h)
    refine loop_to hj (.one ⟨_, .done _, [], [], ?_⟩)
    clear hj
    try simp only [go_sem]
theorem l_eqShardRedex_ok (a0 : ShardRedex) (a1 : ShardRedex) (r : Bool) (h : l_eqShardRedex a0 a1 = some r) : AC Try.prog 380 [.agg (ShardRedex.avs a0), .agg (ShardRedex.avs a1)] (.bool r) := by
  unfold l_eqShardRedex at h
  refine ac_fn mixed Try.func380 rfl rfl rfl (by kernel_rfl) (by kernel_rfl) ?_
  try simp only [go_sem]
  replace h := bindE h
  obtain ⟨v2004, hv2004, h⟩ := h
  refine call_i (l_eqAddress_ok _ _ _ hv2004) ?_
  try simp only [go_sem]
  refine cond_i (fun hb1 => ?_) (fun hb1 => ?_)
  · replace h := ifT (c := (!v2004)) hb1 h
    try simp only [go_sem]
    replace h := Option.some.inj h
    obtain rfl := h
    simp only [go_sem]
  · replace h := ifF (c := (!v2004)) hb1 h
    try simp only [go_sem]
    refine seq_go ?_
    try simp only [go_sem]
    replace h := bindE h
    obtain ⟨v4004, hv4004, h⟩ := h
    refine call_i (l_eqAddress_ok _ _ _ hv4004) ?_
    try simp only [go_sem]
    refine cond_i (fun hb2 => ?_) (fun hb2 => ?_)
    · replace h := ifT (c := (!v4004)) hb2 h
      try simp only [go_sem]
      replace h := Option.some.inj h
      obtain rfl := h
      simp only [go_sem]
    · replace h := ifF (c := (!v4004)) hb2 h
      try simp only [go_sem]
      refine seq_go ?_
      try simp only [go_sem]
      replace h := Option.some.inj h
      obtain rfl := h
      simp only [go_sem]
theorem l_eqShardRedexS_l1_all (n : Nat) : (∀ (a0 : List ShardRedex) (a1 : List ShardRedex) (p0_0 : Int) (r : Bool), l_eqShardRedexS_l1 n a0 a1 p0_0 = some r → posF Try.prog Try.f360 [1, 1, 0, 1, 0] (.bool r) ⟨[(0, .ro (List.map ShardRedex.ds a0)), (1, .ro (List.map ShardRedex.ds a1)), (5, .int .i64 p0_0)], [], []⟩) := by
  induction n with
  | zero => exact ((fun _ _ _ _ h => by rw [l_eqShardRedexS_l1] at h; cases h))
  | succ n ih =>
    have ih0 := ih
    · intro a0 a1 p0_0 r h
      rw [l_eqShardRedexS_l1] at h
      refine posF_of rfl rfl ?_
      try simp only [go_sem]
      refine loop_i ?_
      try simp only [go_sem]
      refine cond_i (fun hb2 => ?_) (fun hb2 => ?_)
      · replace h := ifT (c := (decide (p0_0 < ((List.length a0 : Nat) : Int)))) hb2 h
        try simp only [go_sem]
        refine seq_go ?_
        try simp only [go_sem]
        refine draw_i [] .fin (by kernel_rfl) ?_
        try simp only [go_sem]
        replace h := bindE h
        obtain ⟨v7002, hv7002, h⟩ := h
        refine idx_m hv7002 (ShardRedex.ds_len _) ?_
        try simp only [go_sem]
        replace h := bindE h
        obtain ⟨v7006, hv7006, h⟩ := h
        refine idx_m hv7006 (ShardRedex.ds_len _) ?_
        try simp only [go_sem]
        replace h := bindE h
        obtain ⟨v7008, hv7008, h⟩ := h
        refine call_i (l_eqShardRedex_ok _ _ _ hv7008) ?_
        try simp only [go_sem]
        refine seq_go ?_
        try simp only [go_sem]
        refine cond_i (fun hb3 => ?_) (fun hb3 => ?_)
        · replace h := ifT (c := (!v7008)) hb3 h
          try simp only [go_sem]
          replace h := Option.some.inj h
          obtain rfl := h
          simp only [go_sem]
        · replace h := ifF (c := (!v7008)) hb3 h
          try simp only [go_sem]
          refine seq_go ?_
          try simp only [go_sem]
          have hj := posF_to rfl rfl (ih0 a0 a1 (IntKind.i64.wrap (p0_0 + 1)) _ h)
          refine lp_to hj (.one ⟨_, .done _, [], [], ?_⟩)
          clear hj
          try simp only [go_sem]
      · replace h := ifF (c := (decide (p0_0 < ((List.length a0 : Nat) : Int)))) hb2 h
        try simp only [go_sem]
        refine seq_go ?_
        try simp only [go_sem]
        replace h := Option.some.inj h
        obtain rfl := h
        simp only [go_sem]
theorem l_eqShardRedexS_l1_ok (n : Nat) : (∀ (a0 : List ShardRedex) (a1 : List ShardRedex) (p0_0 : Int) (r : Bool), l_eqShardRedexS_l1 n a0 a1 p0_0 = some r → posF Try.prog Try.f360 [1, 1, 0, 1, 0] (.bool r) ⟨[(0, .ro (List.map ShardRedex.ds a0)), (1, .ro (List.map ShardRedex.ds a1)), (5, .int .i64 p0_0)], [], []⟩) := (l_eqShardRedexS_l1_all n)

theorem l_eqShardRedexS_ok (a0 : List ShardRedex) (a1 : List ShardRedex) (r : Bool) (h : l_eqShardRedexS a0 a1 = some r) : AC Try.prog 360 [.ro (List.map ShardRedex.ds a0), .ro (List.map ShardRedex.ds a1)] (.bool r) := by
  unfold l_eqShardRedexS at h
  refine ac_fn mixed Try.func360 rfl rfl rfl (by kernel_rfl) (by kernel_rfl) ?_
  try simp only [go_sem]
  refine cond_i (fun hb1 => ?_) (fun hb1 => ?_)
  · replace h := ifT (c := (!decide (((List.length a0 : Nat) : Int) = ((List.length a1 : Nat) : Int)))) hb1 h
    try simp only [go_sem]
    replace h := Option.some.inj h
    obtain rfl := h
    simp only [go_sem]
  · replace h := ifF (c := (!decide (((List.length a0 : Nat) : Int) = ((List.length a1 : Nat) : Int)))) hb1 h
    try simp only [go_sem]
    refine seq_go ?_
    try simp only [go_sem]
    have hj := posF_to rfl rfl (l_eqShardRedexS_l1_ok fuel a0 a1 0 _ h)
    refine loop_to hj (.one ⟨_, .done _, [], [], ?_⟩)
    clear hj
    try simp only [go_sem]
theorem l_eqShard_ok (a0 : Shard) (a1 : Shard) (r : Bool) (h : l_eqShard a0 a1 = some r) : AC Try.prog 309 [.agg (Shard.avs a0), .agg (Shard.avs a1)] (.bool r) := by
  unfold l_eqShard at h
  refine ac_fn mixed Try.func309 rfl rfl rfl (by kernel_rfl) (by kernel_rfl) ?_
  try simp only [go_sem]
  replace h := bindE h
  obtain ⟨v2004, hv2004, h⟩ := h
  refine call_i (l_eqShardCellS_ok _ _ _ hv2004) ?_
  try simp only [go_sem]
  refine cond_i (fun hb1 => ?_) (fun hb1 => ?_)
  · replace h := ifT (c := (!v2004)) hb1 h
    try simp only [go_sem]
    replace h := Option.some.inj h
    obtain rfl := h
    simp only [go_sem]
  · replace h := ifF (c := (!v2004)) hb1 h
    try simp only [go_sem]
    refine seq_go ?_
    try simp only [go_sem]
    replace h := bindE h
    obtain ⟨v4004, hv4004, h⟩ := h
    refine call_i (l_eqShardVarS_ok _ _ _ hv4004) ?_
    try simp only [go_sem]
    refine cond_i (fun hb2 => ?_) (fun hb2 => ?_)
    · replace h := ifT (c := (!v4004)) hb2 h
      try simp only [go_sem]
      replace h := Option.some.inj h
      obtain rfl := h
      simp only [go_sem]
    · replace h := ifF (c := (!v4004)) hb2 h
      try simp only [go_sem]
      refine seq_go ?_
      try simp only [go_sem]
      replace h := bindE h
      obtain ⟨v6004, hv6004, h⟩ := h
      refine call_i (l_eqShardRedexS_ok _ _ _ hv6004) ?_
      try simp only [go_sem]
      refine cond_i (fun hb3 => ?_) (fun hb3 => ?_)
      · replace h := ifT (c := (!v6004)) hb3 h
        try simp only [go_sem]
        replace h := Option.some.inj h
        obtain rfl := h
        simp only [go_sem]
      · replace h := ifF (c := (!v6004)) hb3 h
        try simp only [go_sem]
        refine seq_go ?_
        try simp only [go_sem]
        replace h := Option.some.inj h
        obtain rfl := h
        simp only [go_sem]
theorem l_eqShardS_l1_all (n : Nat) : (∀ (a0 : List Shard) (a1 : List Shard) (p0_0 : Int) (r : Bool), l_eqShardS_l1 n a0 a1 p0_0 = some r → posF Try.prog Try.f260 [1, 1, 0, 1, 0] (.bool r) ⟨[(0, .ro (List.map Shard.ds a0)), (1, .ro (List.map Shard.ds a1)), (5, .int .i64 p0_0)], [], []⟩) := by
  induction n with
  | zero => exact ((fun _ _ _ _ h => by rw [l_eqShardS_l1] at h; cases h))
  | succ n ih =>
    have ih0 := ih
    · intro a0 a1 p0_0 r h
      rw [l_eqShardS_l1] at h
      refine posF_of rfl rfl ?_
      try simp only [go_sem]
      refine loop_i ?_
      try simp only [go_sem]
      refine cond_i (fun hb2 => ?_) (fun hb2 => ?_)
      · replace h := ifT (c := (decide (p0_0 < ((List.length a0 : Nat) : Int)))) hb2 h
        try simp only [go_sem]
        refine seq_go ?_
        try simp only [go_sem]
        refine draw_i [] .fin (by kernel_rfl) ?_
        try simp only [go_sem]
        replace h := bindE h
        obtain ⟨v7002, hv7002, h⟩ := h
        refine idx_m hv7002 (Shard.ds_len _) ?_
        try simp only [go_sem]
        replace h := bindE h
        obtain ⟨v7006, hv7006, h⟩ := h
        refine idx_m hv7006 (Shard.ds_len _) ?_
        try simp only [go_sem]
        replace h := bindE h
        obtain ⟨v7008, hv7008, h⟩ := h
        refine call_i (l_eqShard_ok _ _ _ hv7008) ?_
        try simp only [go_sem]
        refine seq_go ?_
        try simp only [go_sem]
        refine cond_i (fun hb3 => ?_) (fun hb3 => ?_)
        · replace h := ifT (c := (!v7008)) hb3 h
          try simp only [go_sem]
          replace h := Option.some.inj h
          obtain rfl := h
          simp only [go_sem]
        · replace h := ifF (c := (!v7008)) hb3 h
          try simp only [go_sem]
          refine seq_go ?_
          try simp only [go_sem]
          have hj := posF_to rfl rfl (ih0 a0 a1 (IntKind.i64.wrap (p0_0 + 1)) _ h)
          refine lp_to hj (.one ⟨_, .done _, [], [], ?_⟩)
          clear hj
          try simp only [go_sem]
      · replace h := ifF (c := (decide (p0_0 < ((List.length a0 : Nat) : Int)))) hb2 h
        try simp only [go_sem]
        refine seq_go ?_
        try simp only [go_sem]
        replace h := Option.some.inj h
        obtain rfl := h
        simp only [go_sem]
theorem l_eqShardS_l1_ok (n : Nat) : (∀ (a0 : List Shard) (a1 : List Shard) (p0_0 : Int) (r : Bool), l_eqShardS_l1 n a0 a1 p0_0 = some r → posF Try.prog Try.f260 [1, 1, 0, 1, 0] (.bool r) ⟨[(0, .ro (List.map Shard.ds a0)), (1, .ro (List.map Shard.ds a1)), (5, .int .i64 p0_0)], [], []⟩) := (l_eqShardS_l1_all n)

theorem l_eqShardS_ok (a0 : List Shard) (a1 : List Shard) (r : Bool) (h : l_eqShardS a0 a1 = some r) : AC Try.prog 260 [.ro (List.map Shard.ds a0), .ro (List.map Shard.ds a1)] (.bool r) := by
  unfold l_eqShardS at h
  refine ac_fn mixed Try.func260 rfl rfl rfl (by kernel_rfl) (by kernel_rfl) ?_
  try simp only [go_sem]
  refine cond_i (fun hb1 => ?_) (fun hb1 => ?_)
  · replace h := ifT (c := (!decide (((List.length a0 : Nat) : Int) = ((List.length a1 : Nat) : Int)))) hb1 h
    try simp only [go_sem]
    replace h := Option.some.inj h
    obtain rfl := h
    simp only [go_sem]
  · replace h := ifF (c := (!decide (((List.length a0 : Nat) : Int) = ((List.length a1 : Nat) : Int)))) hb1 h
    try simp only [go_sem]
    refine seq_go ?_
    try simp only [go_sem]
    have hj := posF_to rfl rfl (l_eqShardS_l1_ok fuel a0 a1 0 _ h)
    refine loop_to hj (.one ⟨_, .done _, [], [], ?_⟩)
    clear hj
    try simp only [go_sem]
theorem l_eqGrid_ok (a0 : Grid) (a1 : Grid) (r : Bool) (h : l_eqGrid a0 a1 = some r) : AC Try.prog 191 [.agg (Grid.avs a0), .agg (Grid.avs a1)] (.bool r) := by
  unfold l_eqGrid at h
  refine ac_fn mixed Try.func191 rfl rfl rfl (by kernel_rfl) (by kernel_rfl) ?_
  try simp only [go_sem]
  replace h := bindE h
  obtain ⟨v2004, hv2004, h⟩ := h
  refine call_i (l_eqShardS_ok _ _ _ hv2004) ?_
  try simp only [go_sem]
  refine cond_i (fun hb1 => ?_) (fun hb1 => ?_)
  · replace h := ifT (c := (!v2004)) hb1 h
    try simp only [go_sem]
    replace h := Option.some.inj h
    obtain rfl := h
    simp only [go_sem]
  · replace h := ifF (c := (!v2004)) hb1 h
    try simp only [go_sem]
    refine seq_go ?_
    try simp only [go_sem]
    replace h := bindE h
    obtain ⟨v4004, hv4004, h⟩ := h
    refine call_i (l_eqAddress_ok _ _ _ hv4004) ?_
    try simp only [go_sem]
    refine cond_i (fun hb2 => ?_) (fun hb2 => ?_)
    · replace h := ifT (c := (!v4004)) hb2 h
      try simp only [go_sem]
      replace h := Option.some.inj h
      obtain rfl := h
      simp only [go_sem]
    · replace h := ifF (c := (!v4004)) hb2 h
      try simp only [go_sem]
      refine seq_go ?_
      try simp only [go_sem]
      replace h := Option.some.inj h
      obtain rfl := h
      simp only [go_sem]
theorem l_eqParcel_ok (a0 : Parcel) (a1 : Parcel) (r : Bool) (h : l_eqParcel a0 a1 = some r) : AC Try.prog 310 [.agg (Parcel.avs a0), .agg (Parcel.avs a1)] (.bool r) := by
  unfold l_eqParcel at h
  refine ac_fn mixed Try.func310 rfl rfl rfl (by kernel_rfl) (by kernel_rfl) ?_
  try simp only [go_sem]
  refine cond_i (fun hb1 => ?_) (fun hb1 => ?_)
  · replace h := ifT (c := (!decide (a0.kind = a1.kind))) hb1 h
    try simp only [go_sem]
    replace h := Option.some.inj h
    obtain rfl := h
    simp only [go_sem]
  · replace h := ifF (c := (!decide (a0.kind = a1.kind))) hb1 h
    try simp only [go_sem]
    refine seq_go ?_
    try simp only [go_sem]
    replace h := bindE h
    obtain ⟨v4004, hv4004, h⟩ := h
    refine call_i (l_eqShardCell_ok _ _ _ hv4004) ?_
    try simp only [go_sem]
    refine cond_i (fun hb2 => ?_) (fun hb2 => ?_)
    · replace h := ifT (c := (!v4004)) hb2 h
      try simp only [go_sem]
      replace h := Option.some.inj h
      obtain rfl := h
      simp only [go_sem]
    · replace h := ifF (c := (!v4004)) hb2 h
      try simp only [go_sem]
      refine seq_go ?_
      try simp only [go_sem]
      replace h := bindE h
      obtain ⟨v6004, hv6004, h⟩ := h
      refine call_i (l_eqAddress_ok _ _ _ hv6004) ?_
      try simp only [go_sem]
      refine cond_i (fun hb3 => ?_) (fun hb3 => ?_)
      · replace h := ifT (c := (!v6004)) hb3 h
        try simp only [go_sem]
        replace h := Option.some.inj h
        obtain rfl := h
        simp only [go_sem]
      · replace h := ifF (c := (!v6004)) hb3 h
        try simp only [go_sem]
        refine seq_go ?_
        try simp only [go_sem]
        replace h := bindE h
        obtain ⟨v8004, hv8004, h⟩ := h
        refine call_i (l_eqAddress_ok _ _ _ hv8004) ?_
        try simp only [go_sem]
        refine cond_i (fun hb4 => ?_) (fun hb4 => ?_)
        · replace h := ifT (c := (!v8004)) hb4 h
          try simp only [go_sem]
          replace h := Option.some.inj h
          obtain rfl := h
          simp only [go_sem]
        · replace h := ifF (c := (!v8004)) hb4 h
          try simp only [go_sem]
          refine seq_go ?_
          try simp only [go_sem]
          replace h := Option.some.inj h
          obtain rfl := h
          simp only [go_sem]
theorem l_eqParcelS_l1_all (n : Nat) : (∀ (a0 : List Parcel) (a1 : List Parcel) (p0_0 : Int) (r : Bool), l_eqParcelS_l1 n a0 a1 p0_0 = some r → posF Try.prog Try.f262 [1, 1, 0, 1, 0] (.bool r) ⟨[(0, .ro (List.map Parcel.ds a0)), (1, .ro (List.map Parcel.ds a1)), (5, .int .i64 p0_0)], [], []⟩) := by
  induction n with
  | zero => exact ((fun _ _ _ _ h => by rw [l_eqParcelS_l1] at h; cases h))
  | succ n ih =>
    have ih0 := ih
    · intro a0 a1 p0_0 r h
      rw [l_eqParcelS_l1] at h
      refine posF_of rfl rfl ?_
      try simp only [go_sem]
      refine loop_i ?_
      try simp only [go_sem]
      refine cond_i (fun hb2 => ?_) (fun hb2 => ?_)
      · replace h := ifT (c := (decide (p0_0 < ((List.length a0 : Nat) : Int)))) hb2 h
        try simp only [go_sem]
        refine seq_go ?_
        try simp only [go_sem]
        refine draw_i [] .fin (by kernel_rfl) ?_
        try simp only [go_sem]
        replace h := bindE h
        obtain ⟨v7002, hv7002, h⟩ := h
        refine idx_m hv7002 (Parcel.ds_len _) ?_
        try simp only [go_sem]
        replace h := bindE h
        obtain ⟨v7006, hv7006, h⟩ := h
        refine idx_m hv7006 (Parcel.ds_len _) ?_
        try simp only [go_sem]
        replace h := bindE h
        obtain ⟨v7008, hv7008, h⟩ := h
        refine call_i (l_eqParcel_ok _ _ _ hv7008) ?_
        try simp only [go_sem]
        refine seq_go ?_
        try simp only [go_sem]
        refine cond_i (fun hb3 => ?_) (fun hb3 => ?_)
        · replace h := ifT (c := (!v7008)) hb3 h
          try simp only [go_sem]
          replace h := Option.some.inj h
          obtain rfl := h
          simp only [go_sem]
        · replace h := ifF (c := (!v7008)) hb3 h
          try simp only [go_sem]
          refine seq_go ?_
          try simp only [go_sem]
          have hj := posF_to rfl rfl (ih0 a0 a1 (IntKind.i64.wrap (p0_0 + 1)) _ h)
          refine lp_to hj (.one ⟨_, .done _, [], [], ?_⟩)
          clear hj
          try simp only [go_sem]
      · replace h := ifF (c := (decide (p0_0 < ((List.length a0 : Nat) : Int)))) hb2 h
        try simp only [go_sem]
        refine seq_go ?_
        try simp only [go_sem]
        replace h := Option.some.inj h
        obtain rfl := h
        simp only [go_sem]
theorem l_eqParcelS_l1_ok (n : Nat) : (∀ (a0 : List Parcel) (a1 : List Parcel) (p0_0 : Int) (r : Bool), l_eqParcelS_l1 n a0 a1 p0_0 = some r → posF Try.prog Try.f262 [1, 1, 0, 1, 0] (.bool r) ⟨[(0, .ro (List.map Parcel.ds a0)), (1, .ro (List.map Parcel.ds a1)), (5, .int .i64 p0_0)], [], []⟩) := (l_eqParcelS_l1_all n)

theorem l_eqParcelS_ok (a0 : List Parcel) (a1 : List Parcel) (r : Bool) (h : l_eqParcelS a0 a1 = some r) : AC Try.prog 262 [.ro (List.map Parcel.ds a0), .ro (List.map Parcel.ds a1)] (.bool r) := by
  unfold l_eqParcelS at h
  refine ac_fn mixed Try.func262 rfl rfl rfl (by kernel_rfl) (by kernel_rfl) ?_
  try simp only [go_sem]
  refine cond_i (fun hb1 => ?_) (fun hb1 => ?_)
  · replace h := ifT (c := (!decide (((List.length a0 : Nat) : Int) = ((List.length a1 : Nat) : Int)))) hb1 h
    try simp only [go_sem]
    replace h := Option.some.inj h
    obtain rfl := h
    simp only [go_sem]
  · replace h := ifF (c := (!decide (((List.length a0 : Nat) : Int) = ((List.length a1 : Nat) : Int)))) hb1 h
    try simp only [go_sem]
    refine seq_go ?_
    try simp only [go_sem]
    have hj := posF_to rfl rfl (l_eqParcelS_l1_ok fuel a0 a1 0 _ h)
    refine loop_to hj (.one ⟨_, .done _, [], [], ?_⟩)
    clear hj
    try simp only [go_sem]
theorem l_eqParcelSS_l1_all (n : Nat) : (∀ (a0 : List (List Parcel)) (a1 : List (List Parcel)) (p0_0 : Int) (r : Bool), l_eqParcelSS_l1 n a0 a1 p0_0 = some r → posF Try.prog Try.f192 [1, 1, 0, 1, 0] (.bool r) ⟨[(0, .ro (List.map (slD Parcel.ds) a0)), (1, .ro (List.map (slD Parcel.ds) a1)), (5, .int .i64 p0_0)], [], []⟩) := by
  induction n with
  | zero => exact ((fun _ _ _ _ h => by rw [l_eqParcelSS_l1] at h; cases h))
  | succ n ih =>
    have ih0 := ih
    · intro a0 a1 p0_0 r h
      rw [l_eqParcelSS_l1] at h
      refine posF_of rfl rfl ?_
      try simp only [go_sem]
      refine loop_i ?_
      try simp only [go_sem]
      refine cond_i (fun hb2 => ?_) (fun hb2 => ?_)
      · replace h := ifT (c := (decide (p0_0 < ((List.length a0 : Nat) : Int)))) hb2 h
        try simp only [go_sem]
        refine seq_go ?_
        try simp only [go_sem]
        refine draw_i [] .fin (by kernel_rfl) ?_
        try simp only [go_sem]
        replace h := bindE h
        obtain ⟨v7002, hv7002, h⟩ := h
        refine idx_m hv7002 rfl ?_
        try simp only [go_sem]
        replace h := bindE h
        obtain ⟨v7006, hv7006, h⟩ := h
        refine idx_m hv7006 rfl ?_
        try simp only [go_sem]
        replace h := bindE h
        obtain ⟨v7008, hv7008, h⟩ := h
        refine call_i (l_eqParcelS_ok _ _ _ hv7008) ?_
        try simp only [go_sem]
        refine seq_go ?_
        try simp only [go_sem]
        refine cond_i (fun hb3 => ?_) (fun hb3 => ?_)
        · replace h := ifT (c := (!v7008)) hb3 h
          try simp only [go_sem]
          replace h := Option.some.inj h
          obtain rfl := h
          simp only [go_sem]
        · replace h := ifF (c := (!v7008)) hb3 h
          try simp only [go_sem]
          refine seq_go ?_
          try simp only [go_sem]
          have hj := posF_to rfl rfl (ih0 a0 a1 (IntKind.i64.wrap (p0_0 + 1)) _ h)
          refine lp_to hj (.one ⟨_, .done _, [], [], ?_⟩)
          clear hj
          try simp only [go_sem]
      · replace h := ifF (c := (decide (p0_0 < ((List.length a0 : Nat) : Int)))) hb2 h
        try simp only [go_sem]
        refine seq_go ?_
        try simp only [go_sem]
        replace h := Option.some.inj h
        obtain rfl := h
        simp only [go_sem]
theorem l_eqParcelSS_l1_ok (n : Nat) : (∀ (a0 : List (List Parcel)) (a1 : List (List Parcel)) (p0_0 : Int) (r : Bool), l_eqParcelSS_l1 n a0 a1 p0_0 = some r → posF Try.prog Try.f192 [1, 1, 0, 1, 0] (.bool r) ⟨[(0, .ro (List.map (slD Parcel.ds) a0)), (1, .ro (List.map (slD Parcel.ds) a1)), (5, .int .i64 p0_0)], [], []⟩) := (l_eqParcelSS_l1_all n)

theorem l_eqParcelSS_ok (a0 : List (List Parcel)) (a1 : List (List Parcel)) (r : Bool) (h : l_eqParcelSS a0 a1 = some r) : AC Try.prog 192 [.ro (List.map (slD Parcel.ds) a0), .ro (List.map (slD Parcel.ds) a1)] (.bool r) := by
  unfold l_eqParcelSS at h
  refine ac_fn mixed Try.func192 rfl rfl rfl (by kernel_rfl) (by kernel_rfl) ?_
  try simp only [go_sem]
  refine cond_i (fun hb1 => ?_) (fun hb1 => ?_)
  · replace h := ifT (c := (!decide (((List.length a0 : Nat) : Int) = ((List.length a1 : Nat) : Int)))) hb1 h
    try simp only [go_sem]
    replace h := Option.some.inj h
    obtain rfl := h
    simp only [go_sem]
  · replace h := ifF (c := (!decide (((List.length a0 : Nat) : Int) = ((List.length a1 : Nat) : Int)))) hb1 h
    try simp only [go_sem]
    refine seq_go ?_
    try simp only [go_sem]
    have hj := posF_to rfl rfl (l_eqParcelSS_l1_ok fuel a0 a1 0 _ h)
    refine loop_to hj (.one ⟨_, .done _, [], [], ?_⟩)
    clear hj
    try simp only [go_sem]
theorem l_eqCluster_ok (a0 : Cluster) (a1 : Cluster) (r : Bool) (h : l_eqCluster a0 a1 = some r) : AC Try.prog 104 [.agg (Cluster.avs a0), .agg (Cluster.avs a1)] (.bool r) := by
  unfold l_eqCluster at h
  refine ac_fn mixed Try.func104 rfl rfl rfl (by kernel_rfl) (by kernel_rfl) ?_
  try simp only [go_sem]
  replace h := bindE h
  obtain ⟨v2004, hv2004, h⟩ := h
  refine call_i (l_eqGrid_ok _ _ _ hv2004) ?_
  try simp only [go_sem]
  refine cond_i (fun hb1 => ?_) (fun hb1 => ?_)
  · replace h := ifT (c := (!v2004)) hb1 h
    try simp only [go_sem]
    replace h := Option.some.inj h
    obtain rfl := h
    simp only [go_sem]
  · replace h := ifF (c := (!v2004)) hb1 h
    try simp only [go_sem]
    refine seq_go ?_
    try simp only [go_sem]
    replace h := bindE h
    obtain ⟨v4004, hv4004, h⟩ := h
    refine call_i (l_eqParcelSS_ok _ _ _ hv4004) ?_
    try simp only [go_sem]
    refine cond_i (fun hb2 => ?_) (fun hb2 => ?_)
    · replace h := ifT (c := (!v4004)) hb2 h
      try simp only [go_sem]
      replace h := Option.some.inj h
      obtain rfl := h
      simp only [go_sem]
    · replace h := ifF (c := (!v4004)) hb2 h
      try simp only [go_sem]
      refine seq_go ?_
      try simp only [go_sem]
      replace h := bindE h
      obtain ⟨v6004, hv6004, h⟩ := h
      refine call_i (l_eqInt64SS_ok _ _ _ hv6004) ?_
      try simp only [go_sem]
      refine cond_i (fun hb3 => ?_) (fun hb3 => ?_)
      · replace h := ifT (c := (!v6004)) hb3 h
        try simp only [go_sem]
        replace h := Option.some.inj h
        obtain rfl := h
        simp only [go_sem]
      · replace h := ifF (c := (!v6004)) hb3 h
        try simp only [go_sem]
        refine seq_go ?_
        try simp only [go_sem]
        replace h := bindE h
        obtain ⟨v8004, hv8004, h⟩ := h
        refine call_i (l_eqInt64S_ok _ _ _ hv8004) ?_
        try simp only [go_sem]
        refine cond_i (fun hb4 => ?_) (fun hb4 => ?_)
        · replace h := ifT (c := (!v8004)) hb4 h
          try simp only [go_sem]
          replace h := Option.some.inj h
          obtain rfl := h
          simp only [go_sem]
        · replace h := ifF (c := (!v8004)) hb4 h
          try simp only [go_sem]
          refine seq_go ?_
          try simp only [go_sem]
          replace h := bindE h
          obtain ⟨v10004, hv10004, h⟩ := h
          refine call_i (l_eqInt64S_ok _ _ _ hv10004) ?_
          try simp only [go_sem]
          refine cond_i (fun hb5 => ?_) (fun hb5 => ?_)
          · replace h := ifT (c := (!v10004)) hb5 h
            try simp only [go_sem]
            replace h := Option.some.inj h
            obtain rfl := h
            simp only [go_sem]
          · replace h := ifF (c := (!v10004)) hb5 h
            try simp only [go_sem]
            refine seq_go ?_
            try simp only [go_sem]
            replace h := Option.some.inj h
            obtain rfl := h
            simp only [go_sem]
theorem l_eqBoolS_l1_all (n : Nat) : (∀ (a0 : List Bool) (a1 : List Bool) (p0_0 : Int) (r : Bool), l_eqBoolS_l1 n a0 a1 p0_0 = some r → posF Try.prog Try.f259 [1, 1, 0, 1, 0] (.bool r) ⟨[(0, .ro (List.map boolD a0)), (1, .ro (List.map boolD a1)), (5, .int .i64 p0_0)], [], []⟩) := by
  induction n with
  | zero => exact ((fun _ _ _ _ h => by rw [l_eqBoolS_l1] at h; cases h))
  | succ n ih =>
    have ih0 := ih
    · intro a0 a1 p0_0 r h
      rw [l_eqBoolS_l1] at h
      refine posF_of rfl rfl ?_
      try simp only [go_sem]
      refine loop_i ?_
      try simp only [go_sem]
      refine cond_i (fun hb2 => ?_) (fun hb2 => ?_)
      · replace h := ifT (c := (decide (p0_0 < ((List.length a0 : Nat) : Int)))) hb2 h
        try simp only [go_sem]
        refine seq_go ?_
        try simp only [go_sem]
        refine draw_i [] .fin (by kernel_rfl) ?_
        try simp only [go_sem]
        replace h := bindE h
        obtain ⟨v7002, hv7002, h⟩ := h
        refine idx_m hv7002 rfl ?_
        try simp only [go_sem]
        replace h := bindE h
        obtain ⟨v7006, hv7006, h⟩ := h
        refine idx_m hv7006 rfl ?_
        try simp only [go_sem]
        refine seq_go ?_
        try simp only [go_sem]
        refine cond_i (fun hb3 => ?_) (fun hb3 => ?_)
        · replace h := ifT (c := (!(v7002 == v7006))) hb3 h
          try simp only [go_sem]
          replace h := Option.some.inj h
          obtain rfl := h
          simp only [go_sem]
        · replace h := ifF (c := (!(v7002 == v7006))) hb3 h
          try simp only [go_sem]
          refine seq_go ?_
          try simp only [go_sem]
          have hj := posF_to rfl rfl (ih0 a0 a1 (IntKind.i64.wrap (p0_0 + 1)) _ h)
          refine lp_to hj (.one ⟨_, .done _, [], [], ?_⟩)
          clear hj
          try simp only [go_sem]
      · replace h := ifF (c := (decide (p0_0 < ((List.length a0 : Nat) : Int)))) hb2 h
        try simp only [go_sem]
        refine seq_go ?_
        try simp only [go_sem]
        replace h := Option.some.inj h
        obtain rfl := h
        simp only [go_sem]
theorem l_eqBoolS_l1_ok (n : Nat) : (∀ (a0 : List Bool) (a1 : List Bool) (p0_0 : Int) (r : Bool), l_eqBoolS_l1 n a0 a1 p0_0 = some r → posF Try.prog Try.f259 [1, 1, 0, 1, 0] (.bool r) ⟨[(0, .ro (List.map boolD a0)), (1, .ro (List.map boolD a1)), (5, .int .i64 p0_0)], [], []⟩) := (l_eqBoolS_l1_all n)

theorem l_eqBoolS_ok (a0 : List Bool) (a1 : List Bool) (r : Bool) (h : l_eqBoolS a0 a1 = some r) : AC Try.prog 259 [.ro (List.map boolD a0), .ro (List.map boolD a1)] (.bool r) := by
  unfold l_eqBoolS at h
  refine ac_fn mixed Try.func259 rfl rfl rfl (by kernel_rfl) (by kernel_rfl) ?_
  try simp only [go_sem]
  refine cond_i (fun hb1 => ?_) (fun hb1 => ?_)
  · replace h := ifT (c := (!decide (((List.length a0 : Nat) : Int) = ((List.length a1 : Nat) : Int)))) hb1 h
    try simp only [go_sem]
    replace h := Option.some.inj h
    obtain rfl := h
    simp only [go_sem]
  · replace h := ifF (c := (!decide (((List.length a0 : Nat) : Int) = ((List.length a1 : Nat) : Int)))) hb1 h
    try simp only [go_sem]
    refine seq_go ?_
    try simp only [go_sem]
    have hj := posF_to rfl rfl (l_eqBoolS_l1_ok fuel a0 a1 0 _ h)
    refine loop_to hj (.one ⟨_, .done _, [], [], ?_⟩)
    clear hj
    try simp only [go_sem]
theorem l_eqShot_ok (a0 : Shot) (a1 : Shot) (r : Bool) (h : l_eqShot a0 a1 = some r) : AC Try.prog 190 [.agg (Shot.avs a0), .agg (Shot.avs a1)] (.bool r) := by
  unfold l_eqShot at h
  refine ac_fn mixed Try.func190 rfl rfl rfl (by kernel_rfl) (by kernel_rfl) ?_
  try simp only [go_sem]
  replace h := bindE h
  obtain ⟨v2004, hv2004, h⟩ := h
  refine call_i (l_eqBoolS_ok _ _ _ hv2004) ?_
  try simp only [go_sem]
  refine cond_i (fun hb1 => ?_) (fun hb1 => ?_)
  · replace h := ifT (c := (!v2004)) hb1 h
    try simp only [go_sem]
    replace h := Option.some.inj h
    obtain rfl := h
    simp only [go_sem]
  · replace h := ifF (c := (!v2004)) hb1 h
    try simp only [go_sem]
    refine seq_go ?_
    try simp only [go_sem]
    replace h := bindE h
    obtain ⟨v4004, hv4004, h⟩ := h
    refine call_i (l_eqShardS_ok _ _ _ hv4004) ?_
    try simp only [go_sem]
    refine cond_i (fun hb2 => ?_) (fun hb2 => ?_)
    · replace h := ifT (c := (!v4004)) hb2 h
      try simp only [go_sem]
      replace h := Option.some.inj h
      obtain rfl := h
      simp only [go_sem]
    · replace h := ifF (c := (!v4004)) hb2 h
      try simp only [go_sem]
      refine seq_go ?_
      try simp only [go_sem]
      replace h := bindE h
      obtain ⟨v6004, hv6004, h⟩ := h
      refine call_i (l_eqInt64SS_ok _ _ _ hv6004) ?_
      try simp only [go_sem]
      refine cond_i (fun hb3 => ?_) (fun hb3 => ?_)
      · replace h := ifT (c := (!v6004)) hb3 h
        try simp only [go_sem]
        replace h := Option.some.inj h
        obtain rfl := h
        simp only [go_sem]
      · replace h := ifF (c := (!v6004)) hb3 h
        try simp only [go_sem]
        refine seq_go ?_
        try simp only [go_sem]
        replace h := bindE h
        obtain ⟨v8004, hv8004, h⟩ := h
        refine call_i (l_eqBoolS_ok _ _ _ hv8004) ?_
        try simp only [go_sem]
        refine cond_i (fun hb4 => ?_) (fun hb4 => ?_)
        · replace h := ifT (c := (!v8004)) hb4 h
          try simp only [go_sem]
          replace h := Option.some.inj h
          obtain rfl := h
          simp only [go_sem]
        · replace h := ifF (c := (!v8004)) hb4 h
          try simp only [go_sem]
          refine seq_go ?_
          try simp only [go_sem]
          replace h := bindE h
          obtain ⟨v10004, hv10004, h⟩ := h
          refine call_i (l_eqParcelSS_ok _ _ _ hv10004) ?_
          try simp only [go_sem]
          refine cond_i (fun hb5 => ?_) (fun hb5 => ?_)
          · replace h := ifT (c := (!v10004)) hb5 h
            try simp only [go_sem]
            replace h := Option.some.inj h
            obtain rfl := h
            simp only [go_sem]
          · replace h := ifF (c := (!v10004)) hb5 h
            try simp only [go_sem]
            refine seq_go ?_
            try simp only [go_sem]
            replace h := Option.some.inj h
            obtain rfl := h
            simp only [go_sem]
theorem l_eqWatched_ok (a0 : Watched) (a1 : Watched) (r : Bool) (h : l_eqWatched a0 a1 = some r) : AC Try.prog 103 [.agg (Watched.avs a0), .agg (Watched.avs a1)] (.bool r) := by
  unfold l_eqWatched at h
  refine ac_fn mixed Try.func103 rfl rfl rfl (by kernel_rfl) (by kernel_rfl) ?_
  try simp only [go_sem]
  replace h := bindE h
  obtain ⟨v2004, hv2004, h⟩ := h
  refine call_i (l_eqCluster_ok _ _ _ hv2004) ?_
  try simp only [go_sem]
  refine cond_i (fun hb1 => ?_) (fun hb1 => ?_)
  · replace h := ifT (c := (!v2004)) hb1 h
    try simp only [go_sem]
    replace h := Option.some.inj h
    obtain rfl := h
    simp only [go_sem]
  · replace h := ifF (c := (!v2004)) hb1 h
    try simp only [go_sem]
    refine seq_go ?_
    try simp only [go_sem]
    replace h := bindE h
    obtain ⟨v4004, hv4004, h⟩ := h
    refine call_i (l_eqShot_ok _ _ _ hv4004) ?_
    try simp only [go_sem]
    refine cond_i (fun hb2 => ?_) (fun hb2 => ?_)
    · replace h := ifT (c := (!v4004)) hb2 h
      try simp only [go_sem]
      replace h := Option.some.inj h
      obtain rfl := h
      simp only [go_sem]
    · replace h := ifF (c := (!v4004)) hb2 h
      try simp only [go_sem]
      refine seq_go ?_
      try simp only [go_sem]
      replace h := Option.some.inj h
      obtain rfl := h
      simp only [go_sem]
theorem l_eqService_ok (a0 : Service) (a1 : Service) (r : Bool) (h : l_eqService a0 a1 = some r) : AC Try.prog 40 [.agg (Service.avs a0), .agg (Service.avs a1)] (.bool r) := by
  unfold l_eqService at h
  refine ac_fn mixed Try.func40 rfl rfl rfl (by kernel_rfl) (by kernel_rfl) ?_
  try simp only [go_sem]
  replace h := bindE h
  obtain ⟨v2004, hv2004, h⟩ := h
  refine call_i (l_eqWatched_ok _ _ _ hv2004) ?_
  try simp only [go_sem]
  refine cond_i (fun hb1 => ?_) (fun hb1 => ?_)
  · replace h := ifT (c := (!v2004)) hb1 h
    try simp only [go_sem]
    replace h := Option.some.inj h
    obtain rfl := h
    simp only [go_sem]
  · replace h := ifF (c := (!v2004)) hb1 h
    try simp only [go_sem]
    refine seq_go ?_
    try simp only [go_sem]
    replace h := bindE h
    obtain ⟨v4004, hv4004, h⟩ := h
    refine call_i (l_eqCluster_ok _ _ _ hv4004) ?_
    try simp only [go_sem]
    refine cond_i (fun hb2 => ?_) (fun hb2 => ?_)
    · replace h := ifT (c := (!v4004)) hb2 h
      try simp only [go_sem]
      replace h := Option.some.inj h
      obtain rfl := h
      simp only [go_sem]
    · replace h := ifF (c := (!v4004)) hb2 h
      try simp only [go_sem]
      refine seq_go ?_
      try simp only [go_sem]
      refine cond_i (fun hb3 => ?_) (fun hb3 => ?_)
      · replace h := ifT (c := (!decide (a0.shots = a1.shots))) hb3 h
        try simp only [go_sem]
        replace h := Option.some.inj h
        obtain rfl := h
        simp only [go_sem]
      · replace h := ifF (c := (!decide (a0.shots = a1.shots))) hb3 h
        try simp only [go_sem]
        refine seq_go ?_
        try simp only [go_sem]
        refine cond_i (fun hb4 => ?_) (fun hb4 => ?_)
        · replace h := ifT (c := (!decide (a0.crashes = a1.crashes))) hb4 h
          try simp only [go_sem]
          replace h := Option.some.inj h
          obtain rfl := h
          simp only [go_sem]
        · replace h := ifF (c := (!decide (a0.crashes = a1.crashes))) hb4 h
          try simp only [go_sem]
          refine seq_go ?_
          try simp only [go_sem]
          replace h := Option.some.inj h
          obtain rfl := h
          simp only [go_sem]
end Go.Proofs.Ytffokcfdkkikmaa.Ab
