/-
  The functions do what their models say. Printed by wip/ab/gen.py.
-/
import Derived.Test.YtffokcfdkkikmaaModV
import Derived.Test.YtffokcfdkkikmaaTi2
import Derived.Test.YtffokcfdkkikmaaWlk
namespace Go.Proofs.Ytffokcfdkkikmaa.Ab
set_option linter.unusedVariables false
set_option linter.unusedSimpArgs false
set_option maxRecDepth 20000
set_option maxHeartbeats 4000000
open Go.RowKit

theorem l_szAddressS_ok (a0 : List Address) (a1 : Int) (r : Int) (h : l_szAddressS a0 a1 = some r) : AC Try.prog 375 [.ro (List.map Address.ds a0), .int .i64 a1] (.int .i64 r) := by
  unfold l_szAddressS at h
  refine ac_fn mixed Try.func375 rfl rfl rfl (by kernel_rfl) (by kernel_rfl) ?_
  try simp only [go_sem]
  refine cond_i (fun hb1 => ?_) (fun hb1 => ?_)
  · replace h := ifT (c := (decide ((IntKind.i64.wrap (a1 - ((List.length a0 : Nat) : Int))) < 0))) hb1 h
    try simp only [go_sem]
    replace h := Option.some.inj h
    obtain rfl := h
    simp only [go_sem]
  · replace h := ifF (c := (decide ((IntKind.i64.wrap (a1 - ((List.length a0 : Nat) : Int))) < 0))) hb1 h
    try simp only [go_sem]
    refine seq_go ?_
    try simp only [go_sem]
    replace h := Option.some.inj h
    obtain rfl := h
    simp only [go_sem]
theorem l_szShardCell_ok (a0 : ShardCell) (a1 : Int) (r : Int) (h : l_szShardCell a0 a1 = some r) : AC Try.prog 351 [.agg (ShardCell.avs a0), .int .i64 a1] (.int .i64 r) := by
  unfold l_szShardCell at h
  refine ac_fn mixed Try.func351 rfl rfl rfl (by kernel_rfl) (by kernel_rfl) ?_
  try simp only [go_sem]
  replace h := bindE h
  obtain ⟨v2003, hv2003, h⟩ := h
  refine call_i (l_szInt64S_ok _ _ _ hv2003) ?_
  try simp only [go_sem]
  refine cond_i (fun hb1 => ?_) (fun hb1 => ?_)
  · replace h := ifT (c := (decide (v2003 < 0))) hb1 h
    try simp only [go_sem]
    replace h := Option.some.inj h
    obtain rfl := h
    simp only [go_sem]
  · replace h := ifF (c := (decide (v2003 < 0))) hb1 h
    try simp only [go_sem]
    refine seq_go ?_
    try simp only [go_sem]
    replace h := bindE h
    obtain ⟨v5003, hv5003, h⟩ := h
    refine call_i (l_szAddressS_ok _ _ _ hv5003) ?_
    try simp only [go_sem]
    refine cond_i (fun hb2 => ?_) (fun hb2 => ?_)
    · replace h := ifT (c := (decide (v5003 < 0))) hb2 h
      try simp only [go_sem]
      replace h := Option.some.inj h
      obtain rfl := h
      simp only [go_sem]
    · replace h := ifF (c := (decide (v5003 < 0))) hb2 h
      try simp only [go_sem]
      refine seq_go ?_
      try simp only [go_sem]
      replace h := Option.some.inj h
      obtain rfl := h
      simp only [go_sem]
theorem l_szShardCellS_l1_all (n : Nat) : (∀ (a0 : List ShardCell) (p0_0 : Int) (p0_1 : Int) (r : Int), l_szShardCellS_l1 n a0 p0_0 p0_1 = some r → posF Try.prog Try.f348 [1, 1, 1, 0, 1, 0] (.int .i64 r) ⟨[(0, .ro (List.map ShardCell.ds a0)), (1, .int .i64 p0_0), (5, .int .i64 p0_1)], [], []⟩) := by
  induction n with
  | zero => exact ((fun _ _ _ _ h => by rw [l_szShardCellS_l1] at h; cases h))
  | succ n ih =>
    have ih0 := ih
    · intro a0 p0_0 p0_1 r h
      rw [l_szShardCellS_l1] at h
      refine posF_of rfl rfl ?_
      try simp only [go_sem]
      refine loop_i ?_
      try simp only [go_sem]
      refine cond_i (fun hb2 => ?_) (fun hb2 => ?_)
      · replace h := ifT (c := (decide (p0_1 < ((List.length a0 : Nat) : Int)))) hb2 h
        try simp only [go_sem]
        refine seq_go ?_
        try simp only [go_sem]
        replace h := bindE h
        obtain ⟨v8002, hv8002, h⟩ := h
        refine idx_m hv8002 (ShardCell.ds_len _) ?_
        try simp only [go_sem]
        replace h := bindE h
        obtain ⟨v8005, hv8005, h⟩ := h
        refine call_i (l_szShardCell_ok _ _ _ hv8005) ?_
        try simp only [go_sem]
        refine cond_i (fun hb3 => ?_) (fun hb3 => ?_)
        · replace h := ifT (c := (decide (v8005 < 0))) hb3 h
          try simp only [go_sem]
          replace h := Option.some.inj h
          obtain rfl := h
          simp only [go_sem]
        · replace h := ifF (c := (decide (v8005 < 0))) hb3 h
          try simp only [go_sem]
          refine seq_go ?_
          try simp only [go_sem]
          have hj := posF_to rfl rfl (ih0 a0 v8005 (IntKind.i64.wrap (p0_1 + 1)) _ h)
          refine lp_to hj (.one ⟨_, .done _, [], [], ?_⟩)
          clear hj
          try simp only [go_sem]
      · replace h := ifF (c := (decide (p0_1 < ((List.length a0 : Nat) : Int)))) hb2 h
        try simp only [go_sem]
        refine seq_go ?_
        try simp only [go_sem]
        replace h := Option.some.inj h
        obtain rfl := h
        simp only [go_sem]
theorem l_szShardCellS_l1_ok (n : Nat) : (∀ (a0 : List ShardCell) (p0_0 : Int) (p0_1 : Int) (r : Int), l_szShardCellS_l1 n a0 p0_0 p0_1 = some r → posF Try.prog Try.f348 [1, 1, 1, 0, 1, 0] (.int .i64 r) ⟨[(0, .ro (List.map ShardCell.ds a0)), (1, .int .i64 p0_0), (5, .int .i64 p0_1)], [], []⟩) := (l_szShardCellS_l1_all n)

theorem l_szShardCellS_ok (a0 : List ShardCell) (a1 : Int) (r : Int) (h : l_szShardCellS a0 a1 = some r) : AC Try.prog 348 [.ro (List.map ShardCell.ds a0), .int .i64 a1] (.int .i64 r) := by
  unfold l_szShardCellS at h
  refine ac_fn mixed Try.func348 rfl rfl rfl (by kernel_rfl) (by kernel_rfl) ?_
  try simp only [go_sem]
  refine cond_i (fun hb1 => ?_) (fun hb1 => ?_)
  · replace h := ifT (c := (decide ((IntKind.i64.wrap (a1 - ((List.length a0 : Nat) : Int))) < 0))) hb1 h
    try simp only [go_sem]
    replace h := Option.some.inj h
    obtain rfl := h
    simp only [go_sem]
  · replace h := ifF (c := (decide ((IntKind.i64.wrap (a1 - ((List.length a0 : Nat) : Int))) < 0))) hb1 h
    try simp only [go_sem]
    refine seq_go ?_
    try simp only [go_sem]
    have hj := posF_to rfl rfl (l_szShardCellS_l1_ok fuel a0 (IntKind.i64.wrap (a1 - ((List.length a0 : Nat) : Int))) 0 _ h)
    refine loop_to hj (.one ⟨_, .done _, [], [], ?_⟩)
    clear hj
    try simp only [go_sem]
theorem l_szShardVarS_ok (a0 : List ShardVar) (a1 : Int) (r : Int) (h : l_szShardVarS a0 a1 = some r) : AC Try.prog 349 [.ro (List.map ShardVar.ds a0), .int .i64 a1] (.int .i64 r) := by
  unfold l_szShardVarS at h
  refine ac_fn mixed Try.func349 rfl rfl rfl (by kernel_rfl) (by kernel_rfl) ?_
  try simp only [go_sem]
  refine cond_i (fun hb1 => ?_) (fun hb1 => ?_)
  · replace h := ifT (c := (decide ((IntKind.i64.wrap (a1 - ((List.length a0 : Nat) : Int))) < 0))) hb1 h
    try simp only [go_sem]
    replace h := Option.some.inj h
    obtain rfl := h
    simp only [go_sem]
  · replace h := ifF (c := (decide ((IntKind.i64.wrap (a1 - ((List.length a0 : Nat) : Int))) < 0))) hb1 h
    try simp only [go_sem]
    refine seq_go ?_
    try simp only [go_sem]
    replace h := Option.some.inj h
    obtain rfl := h
    simp only [go_sem]
theorem l_szShardRedexS_ok (a0 : List ShardRedex) (a1 : Int) (r : Int) (h : l_szShardRedexS a0 a1 = some r) : AC Try.prog 350 [.ro (List.map ShardRedex.ds a0), .int .i64 a1] (.int .i64 r) := by
  unfold l_szShardRedexS at h
  refine ac_fn mixed Try.func350 rfl rfl rfl (by kernel_rfl) (by kernel_rfl) ?_
  try simp only [go_sem]
  refine cond_i (fun hb1 => ?_) (fun hb1 => ?_)
  · replace h := ifT (c := (decide ((IntKind.i64.wrap (a1 - ((List.length a0 : Nat) : Int))) < 0))) hb1 h
    try simp only [go_sem]
    replace h := Option.some.inj h
    obtain rfl := h
    simp only [go_sem]
  · replace h := ifF (c := (decide ((IntKind.i64.wrap (a1 - ((List.length a0 : Nat) : Int))) < 0))) hb1 h
    try simp only [go_sem]
    refine seq_go ?_
    try simp only [go_sem]
    replace h := Option.some.inj h
    obtain rfl := h
    simp only [go_sem]
theorem l_szShard_ok (a0 : Shard) (a1 : Int) (r : Int) (h : l_szShard a0 a1 = some r) : AC Try.prog 300 [.agg (Shard.avs a0), .int .i64 a1] (.int .i64 r) := by
  unfold l_szShard at h
  refine ac_fn mixed Try.func300 rfl rfl rfl (by kernel_rfl) (by kernel_rfl) ?_
  try simp only [go_sem]
  replace h := bindE h
  obtain ⟨v2003, hv2003, h⟩ := h
  refine call_i (l_szShardCellS_ok _ _ _ hv2003) ?_
  try simp only [go_sem]
  refine cond_i (fun hb1 => ?_) (fun hb1 => ?_)
  · replace h := ifT (c := (decide (v2003 < 0))) hb1 h
    try simp only [go_sem]
    replace h := Option.some.inj h
    obtain rfl := h
    simp only [go_sem]
  · replace h := ifF (c := (decide (v2003 < 0))) hb1 h
    try simp only [go_sem]
    refine seq_go ?_
    try simp only [go_sem]
    replace h := bindE h
    obtain ⟨v5003, hv5003, h⟩ := h
    refine call_i (l_szShardVarS_ok _ _ _ hv5003) ?_
    try simp only [go_sem]
    refine cond_i (fun hb2 => ?_) (fun hb2 => ?_)
    · replace h := ifT (c := (decide (v5003 < 0))) hb2 h
      try simp only [go_sem]
      replace h := Option.some.inj h
      obtain rfl := h
      simp only [go_sem]
    · replace h := ifF (c := (decide (v5003 < 0))) hb2 h
      try simp only [go_sem]
      refine seq_go ?_
      try simp only [go_sem]
      replace h := bindE h
      obtain ⟨v8003, hv8003, h⟩ := h
      refine call_i (l_szShardRedexS_ok _ _ _ hv8003) ?_
      try simp only [go_sem]
      refine cond_i (fun hb3 => ?_) (fun hb3 => ?_)
      · replace h := ifT (c := (decide (v8003 < 0))) hb3 h
        try simp only [go_sem]
        replace h := Option.some.inj h
        obtain rfl := h
        simp only [go_sem]
      · replace h := ifF (c := (decide (v8003 < 0))) hb3 h
        try simp only [go_sem]
        refine seq_go ?_
        try simp only [go_sem]
        replace h := Option.some.inj h
        obtain rfl := h
        simp only [go_sem]
theorem l_szShardS_l1_all (n : Nat) : (∀ (a0 : List Shard) (p0_0 : Int) (p0_1 : Int) (r : Int), l_szShardS_l1 n a0 p0_0 p0_1 = some r → posF Try.prog Try.f245 [1, 1, 1, 0, 1, 0] (.int .i64 r) ⟨[(0, .ro (List.map Shard.ds a0)), (1, .int .i64 p0_0), (5, .int .i64 p0_1)], [], []⟩) := by
  induction n with
  | zero => exact ((fun _ _ _ _ h => by rw [l_szShardS_l1] at h; cases h))
  | succ n ih =>
    have ih0 := ih
    · intro a0 p0_0 p0_1 r h
      rw [l_szShardS_l1] at h
      refine posF_of rfl rfl ?_
      try simp only [go_sem]
      refine loop_i ?_
      try simp only [go_sem]
      refine cond_i (fun hb2 => ?_) (fun hb2 => ?_)
      · replace h := ifT (c := (decide (p0_1 < ((List.length a0 : Nat) : Int)))) hb2 h
        try simp only [go_sem]
        refine seq_go ?_
        try simp only [go_sem]
        replace h := bindE h
        obtain ⟨v8002, hv8002, h⟩ := h
        refine idx_m hv8002 (Shard.ds_len _) ?_
        try simp only [go_sem]
        replace h := bindE h
        obtain ⟨v8005, hv8005, h⟩ := h
        refine call_i (l_szShard_ok _ _ _ hv8005) ?_
        try simp only [go_sem]
        refine cond_i (fun hb3 => ?_) (fun hb3 => ?_)
        · replace h := ifT (c := (decide (v8005 < 0))) hb3 h
          try simp only [go_sem]
          replace h := Option.some.inj h
          obtain rfl := h
          simp only [go_sem]
        · replace h := ifF (c := (decide (v8005 < 0))) hb3 h
          try simp only [go_sem]
          refine seq_go ?_
          try simp only [go_sem]
          have hj := posF_to rfl rfl (ih0 a0 v8005 (IntKind.i64.wrap (p0_1 + 1)) _ h)
          refine lp_to hj (.one ⟨_, .done _, [], [], ?_⟩)
          clear hj
          try simp only [go_sem]
      · replace h := ifF (c := (decide (p0_1 < ((List.length a0 : Nat) : Int)))) hb2 h
        try simp only [go_sem]
        refine seq_go ?_
        try simp only [go_sem]
        replace h := Option.some.inj h
        obtain rfl := h
        simp only [go_sem]
theorem l_szShardS_l1_ok (n : Nat) : (∀ (a0 : List Shard) (p0_0 : Int) (p0_1 : Int) (r : Int), l_szShardS_l1 n a0 p0_0 p0_1 = some r → posF Try.prog Try.f245 [1, 1, 1, 0, 1, 0] (.int .i64 r) ⟨[(0, .ro (List.map Shard.ds a0)), (1, .int .i64 p0_0), (5, .int .i64 p0_1)], [], []⟩) := (l_szShardS_l1_all n)

theorem l_szShardS_ok (a0 : List Shard) (a1 : Int) (r : Int) (h : l_szShardS a0 a1 = some r) : AC Try.prog 245 [.ro (List.map Shard.ds a0), .int .i64 a1] (.int .i64 r) := by
  unfold l_szShardS at h
  refine ac_fn mixed Try.func245 rfl rfl rfl (by kernel_rfl) (by kernel_rfl) ?_
  try simp only [go_sem]
  refine cond_i (fun hb1 => ?_) (fun hb1 => ?_)
  · replace h := ifT (c := (decide ((IntKind.i64.wrap (a1 - ((List.length a0 : Nat) : Int))) < 0))) hb1 h
    try simp only [go_sem]
    replace h := Option.some.inj h
    obtain rfl := h
    simp only [go_sem]
  · replace h := ifF (c := (decide ((IntKind.i64.wrap (a1 - ((List.length a0 : Nat) : Int))) < 0))) hb1 h
    try simp only [go_sem]
    refine seq_go ?_
    try simp only [go_sem]
    have hj := posF_to rfl rfl (l_szShardS_l1_ok fuel a0 (IntKind.i64.wrap (a1 - ((List.length a0 : Nat) : Int))) 0 _ h)
    refine loop_to hj (.one ⟨_, .done _, [], [], ?_⟩)
    clear hj
    try simp only [go_sem]
theorem l_szGrid_ok (a0 : Grid) (a1 : Int) (r : Int) (h : l_szGrid a0 a1 = some r) : AC Try.prog 174 [.agg (Grid.avs a0), .int .i64 a1] (.int .i64 r) := by
  unfold l_szGrid at h
  refine ac_fn mixed Try.func174 rfl rfl rfl (by kernel_rfl) (by kernel_rfl) ?_
  try simp only [go_sem]
  replace h := bindE h
  obtain ⟨v2003, hv2003, h⟩ := h
  refine call_i (l_szShardS_ok _ _ _ hv2003) ?_
  try simp only [go_sem]
  refine cond_i (fun hb1 => ?_) (fun hb1 => ?_)
  · replace h := ifT (c := (decide (v2003 < 0))) hb1 h
    try simp only [go_sem]
    replace h := Option.some.inj h
    obtain rfl := h
    simp only [go_sem]
  · replace h := ifF (c := (decide (v2003 < 0))) hb1 h
    try simp only [go_sem]
    refine seq_go ?_
    try simp only [go_sem]
    replace h := Option.some.inj h
    obtain rfl := h
    simp only [go_sem]
theorem l_szParcel_ok (a0 : Parcel) (a1 : Int) (r : Int) (h : l_szParcel a0 a1 = some r) : AC Try.prog 301 [.agg (Parcel.avs a0), .int .i64 a1] (.int .i64 r) := by
  unfold l_szParcel at h
  refine ac_fn mixed Try.func301 rfl rfl rfl (by kernel_rfl) (by kernel_rfl) ?_
  try simp only [go_sem]
  replace h := bindE h
  obtain ⟨v2003, hv2003, h⟩ := h
  refine call_i (l_szShardCell_ok _ _ _ hv2003) ?_
  try simp only [go_sem]
  refine cond_i (fun hb1 => ?_) (fun hb1 => ?_)
  · replace h := ifT (c := (decide (v2003 < 0))) hb1 h
    try simp only [go_sem]
    replace h := Option.some.inj h
    obtain rfl := h
    simp only [go_sem]
  · replace h := ifF (c := (decide (v2003 < 0))) hb1 h
    try simp only [go_sem]
    refine seq_go ?_
    try simp only [go_sem]
    replace h := Option.some.inj h
    obtain rfl := h
    simp only [go_sem]
theorem l_szParcelS_l1_all (n : Nat) : (∀ (a0 : List Parcel) (p0_0 : Int) (p0_1 : Int) (r : Int), l_szParcelS_l1 n a0 p0_0 p0_1 = some r → posF Try.prog Try.f246 [1, 1, 1, 0, 1, 0] (.int .i64 r) ⟨[(0, .ro (List.map Parcel.ds a0)), (1, .int .i64 p0_0), (5, .int .i64 p0_1)], [], []⟩) := by
  induction n with
  | zero => exact ((fun _ _ _ _ h => by rw [l_szParcelS_l1] at h; cases h))
  | succ n ih =>
    have ih0 := ih
    · intro a0 p0_0 p0_1 r h
      rw [l_szParcelS_l1] at h
      refine posF_of rfl rfl ?_
      try simp only [go_sem]
      refine loop_i ?_
      try simp only [go_sem]
      refine cond_i (fun hb2 => ?_) (fun hb2 => ?_)
      · replace h := ifT (c := (decide (p0_1 < ((List.length a0 : Nat) : Int)))) hb2 h
        try simp only [go_sem]
        refine seq_go ?_
        try simp only [go_sem]
        replace h := bindE h
        obtain ⟨v8002, hv8002, h⟩ := h
        refine idx_m hv8002 (Parcel.ds_len _) ?_
        try simp only [go_sem]
        replace h := bindE h
        obtain ⟨v8005, hv8005, h⟩ := h
        refine call_i (l_szParcel_ok _ _ _ hv8005) ?_
        try simp only [go_sem]
        refine cond_i (fun hb3 => ?_) (fun hb3 => ?_)
        · replace h := ifT (c := (decide (v8005 < 0))) hb3 h
          try simp only [go_sem]
          replace h := Option.some.inj h
          obtain rfl := h
          simp only [go_sem]
        · replace h := ifF (c := (decide (v8005 < 0))) hb3 h
          try simp only [go_sem]
          refine seq_go ?_
          try simp only [go_sem]
          have hj := posF_to rfl rfl (ih0 a0 v8005 (IntKind.i64.wrap (p0_1 + 1)) _ h)
          refine lp_to hj (.one ⟨_, .done _, [], [], ?_⟩)
          clear hj
          try simp only [go_sem]
      · replace h := ifF (c := (decide (p0_1 < ((List.length a0 : Nat) : Int)))) hb2 h
        try simp only [go_sem]
        refine seq_go ?_
        try simp only [go_sem]
        replace h := Option.some.inj h
        obtain rfl := h
        simp only [go_sem]
theorem l_szParcelS_l1_ok (n : Nat) : (∀ (a0 : List Parcel) (p0_0 : Int) (p0_1 : Int) (r : Int), l_szParcelS_l1 n a0 p0_0 p0_1 = some r → posF Try.prog Try.f246 [1, 1, 1, 0, 1, 0] (.int .i64 r) ⟨[(0, .ro (List.map Parcel.ds a0)), (1, .int .i64 p0_0), (5, .int .i64 p0_1)], [], []⟩) := (l_szParcelS_l1_all n)

theorem l_szParcelS_ok (a0 : List Parcel) (a1 : Int) (r : Int) (h : l_szParcelS a0 a1 = some r) : AC Try.prog 246 [.ro (List.map Parcel.ds a0), .int .i64 a1] (.int .i64 r) := by
  unfold l_szParcelS at h
  refine ac_fn mixed Try.func246 rfl rfl rfl (by kernel_rfl) (by kernel_rfl) ?_
  try simp only [go_sem]
  refine cond_i (fun hb1 => ?_) (fun hb1 => ?_)
  · replace h := ifT (c := (decide ((IntKind.i64.wrap (a1 - ((List.length a0 : Nat) : Int))) < 0))) hb1 h
    try simp only [go_sem]
    replace h := Option.some.inj h
    obtain rfl := h
    simp only [go_sem]
  · replace h := ifF (c := (decide ((IntKind.i64.wrap (a1 - ((List.length a0 : Nat) : Int))) < 0))) hb1 h
    try simp only [go_sem]
    refine seq_go ?_
    try simp only [go_sem]
    have hj := posF_to rfl rfl (l_szParcelS_l1_ok fuel a0 (IntKind.i64.wrap (a1 - ((List.length a0 : Nat) : Int))) 0 _ h)
    refine loop_to hj (.one ⟨_, .done _, [], [], ?_⟩)
    clear hj
    try simp only [go_sem]
theorem l_szParcelSS_l1_all (n : Nat) : (∀ (a0 : List (List Parcel)) (p0_0 : Int) (p0_1 : Int) (r : Int), l_szParcelSS_l1 n a0 p0_0 p0_1 = some r → posF Try.prog Try.f175 [1, 1, 1, 0, 1, 0] (.int .i64 r) ⟨[(0, .ro (List.map (slD Parcel.ds) a0)), (1, .int .i64 p0_0), (5, .int .i64 p0_1)], [], []⟩) := by
  induction n with
  | zero => exact ((fun _ _ _ _ h => by rw [l_szParcelSS_l1] at h; cases h))
  | succ n ih =>
    have ih0 := ih
    · intro a0 p0_0 p0_1 r h
      rw [l_szParcelSS_l1] at h
      refine posF_of rfl rfl ?_
      try simp only [go_sem]
      refine loop_i ?_
      try simp only [go_sem]
      refine cond_i (fun hb2 => ?_) (fun hb2 => ?_)
      · replace h := ifT (c := (decide (p0_1 < ((List.length a0 : Nat) : Int)))) hb2 h
        try simp only [go_sem]
        refine seq_go ?_
        try simp only [go_sem]
        replace h := bindE h
        obtain ⟨v8002, hv8002, h⟩ := h
        refine idx_m hv8002 rfl ?_
        try simp only [go_sem]
        replace h := bindE h
        obtain ⟨v8005, hv8005, h⟩ := h
        refine call_i (l_szParcelS_ok _ _ _ hv8005) ?_
        try simp only [go_sem]
        refine cond_i (fun hb3 => ?_) (fun hb3 => ?_)
        · replace h := ifT (c := (decide (v8005 < 0))) hb3 h
          try simp only [go_sem]
          replace h := Option.some.inj h
          obtain rfl := h
          simp only [go_sem]
        · replace h := ifF (c := (decide (v8005 < 0))) hb3 h
          try simp only [go_sem]
          refine seq_go ?_
          try simp only [go_sem]
          have hj := posF_to rfl rfl (ih0 a0 v8005 (IntKind.i64.wrap (p0_1 + 1)) _ h)
          refine lp_to hj (.one ⟨_, .done _, [], [], ?_⟩)
          clear hj
          try simp only [go_sem]
      · replace h := ifF (c := (decide (p0_1 < ((List.length a0 : Nat) : Int)))) hb2 h
        try simp only [go_sem]
        refine seq_go ?_
        try simp only [go_sem]
        replace h := Option.some.inj h
        obtain rfl := h
        simp only [go_sem]
theorem l_szParcelSS_l1_ok (n : Nat) : (∀ (a0 : List (List Parcel)) (p0_0 : Int) (p0_1 : Int) (r : Int), l_szParcelSS_l1 n a0 p0_0 p0_1 = some r → posF Try.prog Try.f175 [1, 1, 1, 0, 1, 0] (.int .i64 r) ⟨[(0, .ro (List.map (slD Parcel.ds) a0)), (1, .int .i64 p0_0), (5, .int .i64 p0_1)], [], []⟩) := (l_szParcelSS_l1_all n)

theorem l_szParcelSS_ok (a0 : List (List Parcel)) (a1 : Int) (r : Int) (h : l_szParcelSS a0 a1 = some r) : AC Try.prog 175 [.ro (List.map (slD Parcel.ds) a0), .int .i64 a1] (.int .i64 r) := by
  unfold l_szParcelSS at h
  refine ac_fn mixed Try.func175 rfl rfl rfl (by kernel_rfl) (by kernel_rfl) ?_
  try simp only [go_sem]
  refine cond_i (fun hb1 => ?_) (fun hb1 => ?_)
  · replace h := ifT (c := (decide ((IntKind.i64.wrap (a1 - ((List.length a0 : Nat) : Int))) < 0))) hb1 h
    try simp only [go_sem]
    replace h := Option.some.inj h
    obtain rfl := h
    simp only [go_sem]
  · replace h := ifF (c := (decide ((IntKind.i64.wrap (a1 - ((List.length a0 : Nat) : Int))) < 0))) hb1 h
    try simp only [go_sem]
    refine seq_go ?_
    try simp only [go_sem]
    have hj := posF_to rfl rfl (l_szParcelSS_l1_ok fuel a0 (IntKind.i64.wrap (a1 - ((List.length a0 : Nat) : Int))) 0 _ h)
    refine loop_to hj (.one ⟨_, .done _, [], [], ?_⟩)
    clear hj
    try simp only [go_sem]
theorem l_szInt64SS_l1_all (n : Nat) : (∀ (a0 : List (List Int)) (p0_0 : Int) (p0_1 : Int) (r : Int), l_szInt64SS_l1 n a0 p0_0 p0_1 = some r → posF Try.prog Try.f176 [1, 1, 1, 0, 1, 0] (.int .i64 r) ⟨[(0, .ro (List.map (slD i64D) a0)), (1, .int .i64 p0_0), (5, .int .i64 p0_1)], [], []⟩) := by
  induction n with
  | zero => exact ((fun _ _ _ _ h => by rw [l_szInt64SS_l1] at h; cases h))
  | succ n ih =>
    have ih0 := ih
    · intro a0 p0_0 p0_1 r h
      rw [l_szInt64SS_l1] at h
      refine posF_of rfl rfl ?_
      try simp only [go_sem]
      refine loop_i ?_
      try simp only [go_sem]
      refine cond_i (fun hb2 => ?_) (fun hb2 => ?_)
      · replace h := ifT (c := (decide (p0_1 < ((List.length a0 : Nat) : Int)))) hb2 h
        try simp only [go_sem]
        refine seq_go ?_
        try simp only [go_sem]
        replace h := bindE h
        obtain ⟨v8002, hv8002, h⟩ := h
        refine idx_m hv8002 rfl ?_
        try simp only [go_sem]
        replace h := bindE h
        obtain ⟨v8005, hv8005, h⟩ := h
        refine call_i (l_szInt64S_ok _ _ _ hv8005) ?_
        try simp only [go_sem]
        refine cond_i (fun hb3 => ?_) (fun hb3 => ?_)
        · replace h := ifT (c := (decide (v8005 < 0))) hb3 h
          try simp only [go_sem]
          replace h := Option.some.inj h
          obtain rfl := h
          simp only [go_sem]
        · replace h := ifF (c := (decide (v8005 < 0))) hb3 h
          try simp only [go_sem]
          refine seq_go ?_
          try simp only [go_sem]
          have hj := posF_to rfl rfl (ih0 a0 v8005 (IntKind.i64.wrap (p0_1 + 1)) _ h)
          refine lp_to hj (.one ⟨_, .done _, [], [], ?_⟩)
          clear hj
          try simp only [go_sem]
      · replace h := ifF (c := (decide (p0_1 < ((List.length a0 : Nat) : Int)))) hb2 h
        try simp only [go_sem]
        refine seq_go ?_
        try simp only [go_sem]
        replace h := Option.some.inj h
        obtain rfl := h
        simp only [go_sem]
theorem l_szInt64SS_l1_ok (n : Nat) : (∀ (a0 : List (List Int)) (p0_0 : Int) (p0_1 : Int) (r : Int), l_szInt64SS_l1 n a0 p0_0 p0_1 = some r → posF Try.prog Try.f176 [1, 1, 1, 0, 1, 0] (.int .i64 r) ⟨[(0, .ro (List.map (slD i64D) a0)), (1, .int .i64 p0_0), (5, .int .i64 p0_1)], [], []⟩) := (l_szInt64SS_l1_all n)

theorem l_szInt64SS_ok (a0 : List (List Int)) (a1 : Int) (r : Int) (h : l_szInt64SS a0 a1 = some r) : AC Try.prog 176 [.ro (List.map (slD i64D) a0), .int .i64 a1] (.int .i64 r) := by
  unfold l_szInt64SS at h
  refine ac_fn mixed Try.func176 rfl rfl rfl (by kernel_rfl) (by kernel_rfl) ?_
  try simp only [go_sem]
  refine cond_i (fun hb1 => ?_) (fun hb1 => ?_)
  · replace h := ifT (c := (decide ((IntKind.i64.wrap (a1 - ((List.length a0 : Nat) : Int))) < 0))) hb1 h
    try simp only [go_sem]
    replace h := Option.some.inj h
    obtain rfl := h
    simp only [go_sem]
  · replace h := ifF (c := (decide ((IntKind.i64.wrap (a1 - ((List.length a0 : Nat) : Int))) < 0))) hb1 h
    try simp only [go_sem]
    refine seq_go ?_
    try simp only [go_sem]
    have hj := posF_to rfl rfl (l_szInt64SS_l1_ok fuel a0 (IntKind.i64.wrap (a1 - ((List.length a0 : Nat) : Int))) 0 _ h)
    refine loop_to hj (.one ⟨_, .done _, [], [], ?_⟩)
    clear hj
    try simp only [go_sem]
theorem l_szCluster_ok (a0 : Cluster) (a1 : Int) (r : Int) (h : l_szCluster a0 a1 = some r) : AC Try.prog 96 [.agg (Cluster.avs a0), .int .i64 a1] (.int .i64 r) := by
  unfold l_szCluster at h
  refine ac_fn mixed Try.func96 rfl rfl rfl (by kernel_rfl) (by kernel_rfl) ?_
  try simp only [go_sem]
  replace h := bindE h
  obtain ⟨v2003, hv2003, h⟩ := h
  refine call_i (l_szGrid_ok _ _ _ hv2003) ?_
  try simp only [go_sem]
  refine cond_i (fun hb1 => ?_) (fun hb1 => ?_)
  · replace h := ifT (c := (decide (v2003 < 0))) hb1 h
    try simp only [go_sem]
    replace h := Option.some.inj h
    obtain rfl := h
    simp only [go_sem]
  · replace h := ifF (c := (decide (v2003 < 0))) hb1 h
    try simp only [go_sem]
    refine seq_go ?_
    try simp only [go_sem]
    replace h := bindE h
    obtain ⟨v5003, hv5003, h⟩ := h
    refine call_i (l_szParcelSS_ok _ _ _ hv5003) ?_
    try simp only [go_sem]
    refine cond_i (fun hb2 => ?_) (fun hb2 => ?_)
    · replace h := ifT (c := (decide (v5003 < 0))) hb2 h
      try simp only [go_sem]
      replace h := Option.some.inj h
      obtain rfl := h
      simp only [go_sem]
    · replace h := ifF (c := (decide (v5003 < 0))) hb2 h
      try simp only [go_sem]
      refine seq_go ?_
      try simp only [go_sem]
      replace h := bindE h
      obtain ⟨v8003, hv8003, h⟩ := h
      refine call_i (l_szInt64SS_ok _ _ _ hv8003) ?_
      try simp only [go_sem]
      refine cond_i (fun hb3 => ?_) (fun hb3 => ?_)
      · replace h := ifT (c := (decide (v8003 < 0))) hb3 h
        try simp only [go_sem]
        replace h := Option.some.inj h
        obtain rfl := h
        simp only [go_sem]
      · replace h := ifF (c := (decide (v8003 < 0))) hb3 h
        try simp only [go_sem]
        refine seq_go ?_
        try simp only [go_sem]
        replace h := bindE h
        obtain ⟨v11003, hv11003, h⟩ := h
        refine call_i (l_szInt64S_ok _ _ _ hv11003) ?_
        try simp only [go_sem]
        refine cond_i (fun hb4 => ?_) (fun hb4 => ?_)
        · replace h := ifT (c := (decide (v11003 < 0))) hb4 h
          try simp only [go_sem]
          replace h := Option.some.inj h
          obtain rfl := h
          simp only [go_sem]
        · replace h := ifF (c := (decide (v11003 < 0))) hb4 h
          try simp only [go_sem]
          refine seq_go ?_
          try simp only [go_sem]
          replace h := bindE h
          obtain ⟨v14003, hv14003, h⟩ := h
          refine call_i (l_szInt64S_ok _ _ _ hv14003) ?_
          try simp only [go_sem]
          refine cond_i (fun hb5 => ?_) (fun hb5 => ?_)
          · replace h := ifT (c := (decide (v14003 < 0))) hb5 h
            try simp only [go_sem]
            replace h := Option.some.inj h
            obtain rfl := h
            simp only [go_sem]
          · replace h := ifF (c := (decide (v14003 < 0))) hb5 h
            try simp only [go_sem]
            refine seq_go ?_
            try simp only [go_sem]
            replace h := Option.some.inj h
            obtain rfl := h
            simp only [go_sem]
theorem l_szBoolS_ok (a0 : List Bool) (a1 : Int) (r : Int) (h : l_szBoolS a0 a1 = some r) : AC Try.prog 244 [.ro (List.map boolD a0), .int .i64 a1] (.int .i64 r) := by
  unfold l_szBoolS at h
  refine ac_fn mixed Try.func244 rfl rfl rfl (by kernel_rfl) (by kernel_rfl) ?_
  try simp only [go_sem]
  refine cond_i (fun hb1 => ?_) (fun hb1 => ?_)
  · replace h := ifT (c := (decide ((IntKind.i64.wrap (a1 - ((List.length a0 : Nat) : Int))) < 0))) hb1 h
    try simp only [go_sem]
    replace h := Option.some.inj h
    obtain rfl := h
    simp only [go_sem]
  · replace h := ifF (c := (decide ((IntKind.i64.wrap (a1 - ((List.length a0 : Nat) : Int))) < 0))) hb1 h
    try simp only [go_sem]
    refine seq_go ?_
    try simp only [go_sem]
    replace h := Option.some.inj h
    obtain rfl := h
    simp only [go_sem]
theorem l_szShot_ok (a0 : Shot) (a1 : Int) (r : Int) (h : l_szShot a0 a1 = some r) : AC Try.prog 173 [.agg (Shot.avs a0), .int .i64 a1] (.int .i64 r) := by
  unfold l_szShot at h
  refine ac_fn mixed Try.func173 rfl rfl rfl (by kernel_rfl) (by kernel_rfl) ?_
  try simp only [go_sem]
  replace h := bindE h
  obtain ⟨v2003, hv2003, h⟩ := h
  refine call_i (l_szBoolS_ok _ _ _ hv2003) ?_
  try simp only [go_sem]
  refine cond_i (fun hb1 => ?_) (fun hb1 => ?_)
  · replace h := ifT (c := (decide (v2003 < 0))) hb1 h
    try simp only [go_sem]
    replace h := Option.some.inj h
    obtain rfl := h
    simp only [go_sem]
  · replace h := ifF (c := (decide (v2003 < 0))) hb1 h
    try simp only [go_sem]
    refine seq_go ?_
    try simp only [go_sem]
    replace h := bindE h
    obtain ⟨v5003, hv5003, h⟩ := h
    refine call_i (l_szShardS_ok _ _ _ hv5003) ?_
    try simp only [go_sem]
    refine cond_i (fun hb2 => ?_) (fun hb2 => ?_)
    · replace h := ifT (c := (decide (v5003 < 0))) hb2 h
      try simp only [go_sem]
      replace h := Option.some.inj h
      obtain rfl := h
      simp only [go_sem]
    · replace h := ifF (c := (decide (v5003 < 0))) hb2 h
      try simp only [go_sem]
      refine seq_go ?_
      try simp only [go_sem]
      replace h := bindE h
      obtain ⟨v8003, hv8003, h⟩ := h
      refine call_i (l_szInt64SS_ok _ _ _ hv8003) ?_
      try simp only [go_sem]
      refine cond_i (fun hb3 => ?_) (fun hb3 => ?_)
      · replace h := ifT (c := (decide (v8003 < 0))) hb3 h
        try simp only [go_sem]
        replace h := Option.some.inj h
        obtain rfl := h
        simp only [go_sem]
      · replace h := ifF (c := (decide (v8003 < 0))) hb3 h
        try simp only [go_sem]
        refine seq_go ?_
        try simp only [go_sem]
        replace h := bindE h
        obtain ⟨v11003, hv11003, h⟩ := h
        refine call_i (l_szBoolS_ok _ _ _ hv11003) ?_
        try simp only [go_sem]
        refine cond_i (fun hb4 => ?_) (fun hb4 => ?_)
        · replace h := ifT (c := (decide (v11003 < 0))) hb4 h
          try simp only [go_sem]
          replace h := Option.some.inj h
          obtain rfl := h
          simp only [go_sem]
        · replace h := ifF (c := (decide (v11003 < 0))) hb4 h
          try simp only [go_sem]
          refine seq_go ?_
          try simp only [go_sem]
          replace h := bindE h
          obtain ⟨v14003, hv14003, h⟩ := h
          refine call_i (l_szParcelSS_ok _ _ _ hv14003) ?_
          try simp only [go_sem]
          refine cond_i (fun hb5 => ?_) (fun hb5 => ?_)
          · replace h := ifT (c := (decide (v14003 < 0))) hb5 h
            try simp only [go_sem]
            replace h := Option.some.inj h
            obtain rfl := h
            simp only [go_sem]
          · replace h := ifF (c := (decide (v14003 < 0))) hb5 h
            try simp only [go_sem]
            refine seq_go ?_
            try simp only [go_sem]
            replace h := Option.some.inj h
            obtain rfl := h
            simp only [go_sem]
theorem l_szWatched_ok (a0 : Watched) (a1 : Int) (r : Int) (h : l_szWatched a0 a1 = some r) : AC Try.prog 95 [.agg (Watched.avs a0), .int .i64 a1] (.int .i64 r) := by
  unfold l_szWatched at h
  refine ac_fn mixed Try.func95 rfl rfl rfl (by kernel_rfl) (by kernel_rfl) ?_
  try simp only [go_sem]
  replace h := bindE h
  obtain ⟨v2003, hv2003, h⟩ := h
  refine call_i (l_szCluster_ok _ _ _ hv2003) ?_
  try simp only [go_sem]
  refine cond_i (fun hb1 => ?_) (fun hb1 => ?_)
  · replace h := ifT (c := (decide (v2003 < 0))) hb1 h
    try simp only [go_sem]
    replace h := Option.some.inj h
    obtain rfl := h
    simp only [go_sem]
  · replace h := ifF (c := (decide (v2003 < 0))) hb1 h
    try simp only [go_sem]
    refine seq_go ?_
    try simp only [go_sem]
    replace h := bindE h
    obtain ⟨v5003, hv5003, h⟩ := h
    refine call_i (l_szShot_ok _ _ _ hv5003) ?_
    try simp only [go_sem]
    refine cond_i (fun hb2 => ?_) (fun hb2 => ?_)
    · replace h := ifT (c := (decide (v5003 < 0))) hb2 h
      try simp only [go_sem]
      replace h := Option.some.inj h
      obtain rfl := h
      simp only [go_sem]
    · replace h := ifF (c := (decide (v5003 < 0))) hb2 h
      try simp only [go_sem]
      refine seq_go ?_
      try simp only [go_sem]
      replace h := Option.some.inj h
      obtain rfl := h
      simp only [go_sem]
theorem l_szService_ok (a0 : Service) (a1 : Int) (r : Int) (h : l_szService a0 a1 = some r) : AC Try.prog 36 [.agg (Service.avs a0), .int .i64 a1] (.int .i64 r) := by
  unfold l_szService at h
  refine ac_fn mixed Try.func36 rfl rfl rfl (by kernel_rfl) (by kernel_rfl) ?_
  try simp only [go_sem]
  replace h := bindE h
  obtain ⟨v2003, hv2003, h⟩ := h
  refine call_i (l_szWatched_ok _ _ _ hv2003) ?_
  try simp only [go_sem]
  refine cond_i (fun hb1 => ?_) (fun hb1 => ?_)
  · replace h := ifT (c := (decide (v2003 < 0))) hb1 h
    try simp only [go_sem]
    replace h := Option.some.inj h
    obtain rfl := h
    simp only [go_sem]
  · replace h := ifF (c := (decide (v2003 < 0))) hb1 h
    try simp only [go_sem]
    refine seq_go ?_
    try simp only [go_sem]
    replace h := bindE h
    obtain ⟨v5003, hv5003, h⟩ := h
    refine call_i (l_szCluster_ok _ _ _ hv5003) ?_
    try simp only [go_sem]
    refine cond_i (fun hb2 => ?_) (fun hb2 => ?_)
    · replace h := ifT (c := (decide (v5003 < 0))) hb2 h
      try simp only [go_sem]
      replace h := Option.some.inj h
      obtain rfl := h
      simp only [go_sem]
    · replace h := ifF (c := (decide (v5003 < 0))) hb2 h
      try simp only [go_sem]
      refine seq_go ?_
      try simp only [go_sem]
      replace h := Option.some.inj h
      obtain rfl := h
      simp only [go_sem]
theorem s_l00Same_l1_all (n : Nat) : (∀ (a0 : List Int) (a1 : List Int) (p0_0 : Int) (r : Bool), s_l00Same_l1 n a0 a1 p0_0 = some r → posF Try.prog Try.f90 [1, 1, 0, 1, 0] (.bool r) ⟨[(0, .ro (List.map i64D a0)), (1, .ro (List.map i64D a1)), (5, .int .i64 p0_0)], [], []⟩) := by
  induction n with
  | zero => exact ((fun _ _ _ _ h => by rw [s_l00Same_l1] at h; cases h))
  | succ n ih =>
    have ih0 := ih
    · intro a0 a1 p0_0 r h
      rw [s_l00Same_l1] at h
      refine posF_of rfl rfl ?_
      try simp only [go_sem]
      refine loop_i ?_
      try simp only [go_sem]
      refine cond_i (fun hb2 => ?_) (fun hb2 => ?_)
      · replace h := ifT (c := (decide (p0_0 < ((List.length a0 : Nat) : Int)))) hb2 h
        try simp only [go_sem]
        refine seq_go ?_
        try simp only [go_sem]
        refine draw_i [] .fin (by kernel_rfl) ?_
        try simp only [go_sem]
        replace h := bindE h
        obtain ⟨v7002, hv7002, h⟩ := h
        refine idx_m hv7002 rfl ?_
        try simp only [go_sem]
        replace h := bindE h
        obtain ⟨v7006, hv7006, h⟩ := h
        refine idx_m hv7006 rfl ?_
        try simp only [go_sem]
        refine seq_go ?_
        try simp only [go_sem]
        refine cond_i (fun hb3 => ?_) (fun hb3 => ?_)
        · replace h := ifT (c := (!decide (v7002 = v7006))) hb3 h
          try simp only [go_sem]
          replace h := Option.some.inj h
          obtain rfl := h
          simp only [go_sem]
        · replace h := ifF (c := (!decide (v7002 = v7006))) hb3 h
          try simp only [go_sem]
          refine seq_go ?_
          try simp only [go_sem]
          have hj := posF_to rfl rfl (ih0 a0 a1 (IntKind.i64.wrap (p0_0 + 1)) _ h)
          refine lp_to hj (.one ⟨_, .done _, [], [], ?_⟩)
          clear hj
          try simp only [go_sem]
      · replace h := ifF (c := (decide (p0_0 < ((List.length a0 : Nat) : Int)))) hb2 h
        try simp only [go_sem]
        refine seq_go ?_
        try simp only [go_sem]
        replace h := Option.some.inj h
        obtain rfl := h
        simp only [go_sem]
theorem s_l00Same_l1_ok (n : Nat) : (∀ (a0 : List Int) (a1 : List Int) (p0_0 : Int) (r : Bool), s_l00Same_l1 n a0 a1 p0_0 = some r → posF Try.prog Try.f90 [1, 1, 0, 1, 0] (.bool r) ⟨[(0, .ro (List.map i64D a0)), (1, .ro (List.map i64D a1)), (5, .int .i64 p0_0)], [], []⟩) := (s_l00Same_l1_all n)

theorem s_l00Same_ok (a0 : List Int) (a1 : List Int) (r : Bool) (h : s_l00Same a0 a1 = some r) : AC Try.prog 90 [.ro (List.map i64D a0), .ro (List.map i64D a1)] (.bool r) := by
  unfold s_l00Same at h
  refine ac_fn mixed Try.func90 rfl rfl rfl (by kernel_rfl) (by kernel_rfl) ?_
  try simp only [go_sem]
  refine cond_i (fun hb1 => ?_) (fun hb1 => ?_)
  · replace h := ifT (c := (!decide (((List.length a0 : Nat) : Int) = ((List.length a1 : Nat) : Int)))) hb1 h
    try simp only [go_sem]
    replace h := Option.some.inj h
    obtain rfl := h
    simp only [go_sem]
  · replace h := ifF (c := (!decide (((List.length a0 : Nat) : Int) = ((List.length a1 : Nat) : Int)))) hb1 h
    try simp only [go_sem]
    refine seq_go ?_
    try simp only [go_sem]
    have hj := posF_to rfl rfl (s_l00Same_l1_ok fuel a0 a1 0 _ h)
    refine loop_to hj (.one ⟨_, .done _, [], [], ?_⟩)
    clear hj
    try simp only [go_sem]
theorem s_l27SameAddresses_l1_all (n : Nat) : (∀ (a0 : List Address) (a1 : List Address) (p0_0 : Int) (r : Bool), s_l27SameAddresses_l1 n a0 a1 p0_0 = some r → posF Try.prog Try.f352 [1, 1, 0, 1, 0] (.bool r) ⟨[(0, .ro (List.map Address.ds a0)), (1, .ro (List.map Address.ds a1)), (5, .int .i64 p0_0)], [], []⟩) := by
  induction n with
  | zero => exact ((fun _ _ _ _ h => by rw [s_l27SameAddresses_l1] at h; cases h))
  | succ n ih =>
    have ih0 := ih
    · intro a0 a1 p0_0 r h
      rw [s_l27SameAddresses_l1] at h
      refine posF_of rfl rfl ?_
      try simp only [go_sem]
      refine loop_i ?_
      try simp only [go_sem]
      refine cond_i (fun hb2 => ?_) (fun hb2 => ?_)
      · replace h := ifT (c := (decide (p0_0 < ((List.length a0 : Nat) : Int)))) hb2 h
        try simp only [go_sem]
        refine seq_go ?_
        try simp only [go_sem]
        refine draw_i [] .fin (by kernel_rfl) ?_
        try simp only [go_sem]
        replace h := bindE h
        obtain ⟨v7002, hv7002, h⟩ := h
        refine idx_m hv7002 (Address.ds_len _) ?_
        try simp only [go_sem]
        replace h := bindE h
        obtain ⟨v7006, hv7006, h⟩ := h
        refine idx_m hv7006 (Address.ds_len _) ?_
        try simp only [go_sem]
        refine seq_go ?_
        try simp only [go_sem]
        refine cond_i (fun hb3 => ?_) (fun hb3 => ?_)
        · replace h := ifT (c := (!(decide (v7002.machine = v7006.machine) && (decide (v7002.kind = v7006.kind) && decide (v7002.index = v7006.index))))) hb3 h
          try simp only [go_sem]
          replace h := Option.some.inj h
          obtain rfl := h
          simp only [go_sem]
        · replace h := ifF (c := (!(decide (v7002.machine = v7006.machine) && (decide (v7002.kind = v7006.kind) && decide (v7002.index = v7006.index))))) hb3 h
          try simp only [go_sem]
          refine seq_go ?_
          try simp only [go_sem]
          have hj := posF_to rfl rfl (ih0 a0 a1 (IntKind.i64.wrap (p0_0 + 1)) _ h)
          refine lp_to hj (.one ⟨_, .done _, [], [], ?_⟩)
          clear hj
          try simp only [go_sem]
      · replace h := ifF (c := (decide (p0_0 < ((List.length a0 : Nat) : Int)))) hb2 h
        try simp only [go_sem]
        refine seq_go ?_
        try simp only [go_sem]
        replace h := Option.some.inj h
        obtain rfl := h
        simp only [go_sem]
theorem s_l27SameAddresses_l1_ok (n : Nat) : (∀ (a0 : List Address) (a1 : List Address) (p0_0 : Int) (r : Bool), s_l27SameAddresses_l1 n a0 a1 p0_0 = some r → posF Try.prog Try.f352 [1, 1, 0, 1, 0] (.bool r) ⟨[(0, .ro (List.map Address.ds a0)), (1, .ro (List.map Address.ds a1)), (5, .int .i64 p0_0)], [], []⟩) := (s_l27SameAddresses_l1_all n)

theorem s_l27SameAddresses_ok (a0 : List Address) (a1 : List Address) (r : Bool) (h : s_l27SameAddresses a0 a1 = some r) : AC Try.prog 352 [.ro (List.map Address.ds a0), .ro (List.map Address.ds a1)] (.bool r) := by
  unfold s_l27SameAddresses at h
  refine ac_fn mixed Try.func352 rfl rfl rfl (by kernel_rfl) (by kernel_rfl) ?_
  try simp only [go_sem]
  refine cond_i (fun hb1 => ?_) (fun hb1 => ?_)
  · replace h := ifT (c := (!decide (((List.length a0 : Nat) : Int) = ((List.length a1 : Nat) : Int)))) hb1 h
    try simp only [go_sem]
    replace h := Option.some.inj h
    obtain rfl := h
    simp only [go_sem]
  · replace h := ifF (c := (!decide (((List.length a0 : Nat) : Int) = ((List.length a1 : Nat) : Int)))) hb1 h
    try simp only [go_sem]
    refine seq_go ?_
    try simp only [go_sem]
    have hj := posF_to rfl rfl (s_l27SameAddresses_l1_ok fuel a0 a1 0 _ h)
    refine loop_to hj (.one ⟨_, .done _, [], [], ?_⟩)
    clear hj
    try simp only [go_sem]
theorem s_l27SameCell_ok (a0 : ShardCell) (a1 : ShardCell) (r : Bool) (h : s_l27SameCell a0 a1 = some r) : AC Try.prog 302 [.rop (ShardCell.avs a0) 0, .rop (ShardCell.avs a1) 0] (.bool r) := by
  unfold s_l27SameCell at h
  refine ac_fn mixed Try.func302 rfl rfl rfl (by kernel_rfl) (by kernel_rfl) ?_
  try simp only [go_sem]
  refine draw_i [] .fin (by kernel_rfl) ?_
  try simp only [go_sem]
  refine cond_i (fun hb1 => ?_) (fun hb1 => ?_)
  · replace h := ifT (c := (decide (a0.kind = a1.kind))) hb1 h
    try simp only [go_sem]
    refine cond_i (fun hb2 => ?_) (fun hb2 => ?_)
    · replace h := ifT (c := (decide (a0.level = a1.level))) hb2 h
      try simp only [go_sem]
      refine cond_i (fun hb3 => ?_) (fun hb3 => ?_)
      · replace h := ifT (c := (decide (a0.value = a1.value))) hb3 h
        try simp only [go_sem]
        replace h := bindE h
        obtain ⟨v2040, hv2040, h⟩ := h
        refine call_i (s_l00Same_ok _ _ _ hv2040) ?_
        try simp only [go_sem]
        refine cond_i (fun hb4 => ?_) (fun hb4 => ?_)
        · replace h := ifT (c := v2040) hb4 h
          try simp only [go_sem]
          replace h := bindE h
          obtain ⟨v2051, hv2051, h⟩ := h
          refine call_i (s_l27SameAddresses_ok _ _ _ hv2051) ?_
          try simp only [go_sem]
          refine seq_go ?_
          try simp only [go_sem]
          replace h := Option.some.inj h
          obtain rfl := h
          simp only [go_sem]
        · replace h := ifF (c := v2040) hb4 h
          try simp only [go_sem]
          refine seq_go ?_
          try simp only [go_sem]
          replace h := Option.some.inj h
          obtain rfl := h
          simp only [go_sem]
      · replace h := ifF (c := (decide (a0.value = a1.value))) hb3 h
        try simp only [go_sem]
        refine seq_go ?_
        try simp only [go_sem]
        replace h := Option.some.inj h
        obtain rfl := h
        simp only [go_sem]
    · replace h := ifF (c := (decide (a0.level = a1.level))) hb2 h
      try simp only [go_sem]
      refine seq_go ?_
      try simp only [go_sem]
      replace h := Option.some.inj h
      obtain rfl := h
      simp only [go_sem]
  · replace h := ifF (c := (decide (a0.kind = a1.kind))) hb1 h
    try simp only [go_sem]
    refine seq_go ?_
    try simp only [go_sem]
    replace h := Option.some.inj h
    obtain rfl := h
    simp only [go_sem]
theorem s_SameShard_l7_all (n : Nat) : (∀ (a0 : Shard) (a1 : Shard) (p6_0 : Int) (r : Bool), s_SameShard_l7 n a0 a1 p6_0 = some r → posF Try.prog Try.f247 [1, 1, 1, 1, 0, 1, 0] (.bool r) ⟨[(2, .box 1000006500 0), (3, .box 1000006501 0), (7, .int .i64 p6_0)], [], [(1000006500, some [.ro (List.map ShardCell.ds a0.cells), .ro (List.map ShardVar.ds a0.vars), .ro (List.map ShardRedex.ds a0.redexes)]), (1000006501, some [.ro (List.map ShardCell.ds a1.cells), .ro (List.map ShardVar.ds a1.vars), .ro (List.map ShardRedex.ds a1.redexes)])]⟩) := by
  induction n with
  | zero => exact ((fun _ _ _ _ h => by rw [s_SameShard_l7] at h; cases h))
  | succ n ih =>
    have ih0 := ih
    · intro a0 a1 p6_0 r h
      rw [s_SameShard_l7] at h
      refine posF_of rfl rfl ?_
      try simp only [go_sem]
      refine loop_i ?_
      try simp only [go_sem]
      refine cond_i (fun hb8 => ?_) (fun hb8 => ?_)
      · replace h := ifT (c := (decide (p6_0 < ((List.length a0.redexes : Nat) : Int)))) hb8 h
        try simp only [go_sem]
        refine seq_go ?_
        try simp only [go_sem]
        refine draw_i [] .fin (by kernel_rfl) ?_
        try simp only [go_sem]
        replace h := bindE h
        obtain ⟨v17003, hv17003, h⟩ := h
        refine idx_m hv17003 (ShardRedex.ds_len _) ?_
        try simp only [go_sem]
        replace h := bindE h
        obtain ⟨v17008, hv17008, h⟩ := h
        refine idx_m hv17008 (ShardRedex.ds_len _) ?_
        try simp only [go_sem]
        refine seq_go ?_
        try simp only [go_sem]
        refine cond_i (fun hb9 => ?_) (fun hb9 => ?_)
        · replace h := ifT (c := (!(decide (v17003.a.machine = v17008.a.machine) && (decide (v17003.a.kind = v17008.a.kind) && (decide (v17003.a.index = v17008.a.index) && (decide (v17003.b.machine = v17008.b.machine) && (decide (v17003.b.kind = v17008.b.kind) && decide (v17003.b.index = v17008.b.index)))))))) hb9 h
          try simp only [go_sem]
          replace h := Option.some.inj h
          obtain rfl := h
          simp only [go_sem]
        · replace h := ifF (c := (!(decide (v17003.a.machine = v17008.a.machine) && (decide (v17003.a.kind = v17008.a.kind) && (decide (v17003.a.index = v17008.a.index) && (decide (v17003.b.machine = v17008.b.machine) && (decide (v17003.b.kind = v17008.b.kind) && decide (v17003.b.index = v17008.b.index)))))))) hb9 h
          try simp only [go_sem]
          refine seq_go ?_
          try simp only [go_sem]
          have hj := posF_to rfl rfl (ih0 a0 a1 (IntKind.i64.wrap (p6_0 + 1)) _ h)
          refine lp_to hj (.one ⟨_, .done _, [], [(1000006500, 1000006500), (1000006501, 1000006501)], ?_⟩)
          clear hj
          try simp only [go_sem]
      · replace h := ifF (c := (decide (p6_0 < ((List.length a0.redexes : Nat) : Int)))) hb8 h
        try simp only [go_sem]
        refine seq_go ?_
        try simp only [go_sem]
        replace h := Option.some.inj h
        obtain rfl := h
        simp only [go_sem]
theorem s_SameShard_l7_ok (n : Nat) : (∀ (a0 : Shard) (a1 : Shard) (p6_0 : Int) (r : Bool), s_SameShard_l7 n a0 a1 p6_0 = some r → posF Try.prog Try.f247 [1, 1, 1, 1, 0, 1, 0] (.bool r) ⟨[(2, .box 1000006500 0), (3, .box 1000006501 0), (7, .int .i64 p6_0)], [], [(1000006500, some [.ro (List.map ShardCell.ds a0.cells), .ro (List.map ShardVar.ds a0.vars), .ro (List.map ShardRedex.ds a0.redexes)]), (1000006501, some [.ro (List.map ShardCell.ds a1.cells), .ro (List.map ShardVar.ds a1.vars), .ro (List.map ShardRedex.ds a1.redexes)])]⟩) := (s_SameShard_l7_all n)

theorem s_SameShard_l5_all (n : Nat) : (∀ (a0 : Shard) (a1 : Shard) (p4_0 : Int) (r : Bool), s_SameShard_l5 n a0 a1 p4_0 = some r → posF Try.prog Try.f247 [1, 1, 1, 0, 1, 0] (.bool r) ⟨[(2, .box 1000004500 0), (3, .box 1000004501 0), (6, .int .i64 p4_0)], [], [(1000004500, some [.ro (List.map ShardCell.ds a0.cells), .ro (List.map ShardVar.ds a0.vars), .ro (List.map ShardRedex.ds a0.redexes)]), (1000004501, some [.ro (List.map ShardCell.ds a1.cells), .ro (List.map ShardVar.ds a1.vars), .ro (List.map ShardRedex.ds a1.redexes)])]⟩) := by
  induction n with
  | zero => exact ((fun _ _ _ _ h => by rw [s_SameShard_l5] at h; cases h))
  | succ n ih =>
    have ih0 := ih
    · intro a0 a1 p4_0 r h
      rw [s_SameShard_l5] at h
      refine posF_of rfl rfl ?_
      try simp only [go_sem]
      refine loop_i ?_
      try simp only [go_sem]
      refine cond_i (fun hb6 => ?_) (fun hb6 => ?_)
      · replace h := ifT (c := (decide (p4_0 < ((List.length a0.vars : Nat) : Int)))) hb6 h
        try simp only [go_sem]
        refine seq_go ?_
        try simp only [go_sem]
        refine draw_i [] .fin (by kernel_rfl) ?_
        try simp only [go_sem]
        replace h := bindE h
        obtain ⟨v12003, hv12003, h⟩ := h
        refine idx_m hv12003 (ShardVar.ds_len _) ?_
        try simp only [go_sem]
        replace h := bindE h
        obtain ⟨v12008, hv12008, h⟩ := h
        refine idx_m hv12008 (ShardVar.ds_len _) ?_
        try simp only [go_sem]
        refine seq_go ?_
        try simp only [go_sem]
        refine cond_i (fun hb7 => ?_) (fun hb7 => ?_)
        · replace h := ifT (c := (!(v12003.used == v12008.used && (v12003.full == v12008.full && (decide (v12003.held.machine = v12008.held.machine) && (decide (v12003.held.kind = v12008.held.kind) && decide (v12003.held.index = v12008.held.index))))))) hb7 h
          try simp only [go_sem]
          replace h := Option.some.inj h
          obtain rfl := h
          simp only [go_sem]
        · replace h := ifF (c := (!(v12003.used == v12008.used && (v12003.full == v12008.full && (decide (v12003.held.machine = v12008.held.machine) && (decide (v12003.held.kind = v12008.held.kind) && decide (v12003.held.index = v12008.held.index))))))) hb7 h
          try simp only [go_sem]
          refine seq_go ?_
          try simp only [go_sem]
          have hj := posF_to rfl rfl (ih0 a0 a1 (IntKind.i64.wrap (p4_0 + 1)) _ h)
          refine lp_to hj (.one ⟨_, .done _, [], [(1000004500, 1000004500), (1000004501, 1000004501)], ?_⟩)
          clear hj
          try simp only [go_sem]
      · replace h := ifF (c := (decide (p4_0 < ((List.length a0.vars : Nat) : Int)))) hb6 h
        try simp only [go_sem]
        refine seq_go ?_
        try simp only [go_sem]
        have hj := posF_to rfl rfl (s_SameShard_l7_ok fuel a0 a1 0 _ h)
        refine loop_to hj (.one ⟨_, .done _, [], [(1000006500, 1000004500), (1000006501, 1000004501)], ?_⟩)
        clear hj
        try simp only [go_sem]
theorem s_SameShard_l5_ok (n : Nat) : (∀ (a0 : Shard) (a1 : Shard) (p4_0 : Int) (r : Bool), s_SameShard_l5 n a0 a1 p4_0 = some r → posF Try.prog Try.f247 [1, 1, 1, 0, 1, 0] (.bool r) ⟨[(2, .box 1000004500 0), (3, .box 1000004501 0), (6, .int .i64 p4_0)], [], [(1000004500, some [.ro (List.map ShardCell.ds a0.cells), .ro (List.map ShardVar.ds a0.vars), .ro (List.map ShardRedex.ds a0.redexes)]), (1000004501, some [.ro (List.map ShardCell.ds a1.cells), .ro (List.map ShardVar.ds a1.vars), .ro (List.map ShardRedex.ds a1.redexes)])]⟩) := (s_SameShard_l5_all n)

theorem s_SameShard_l3_all (n : Nat) : (∀ (a0 : Shard) (a1 : Shard) (p2_0 : Int) (r : Bool), s_SameShard_l3 n a0 a1 p2_0 = some r → posF Try.prog Try.f247 [1, 1, 0, 1, 0] (.bool r) ⟨[(2, .box 1000002500 0), (3, .box 1000002501 0), (5, .int .i64 p2_0)], [], [(1000002500, some [.ro (List.map ShardCell.ds a0.cells), .ro (List.map ShardVar.ds a0.vars), .ro (List.map ShardRedex.ds a0.redexes)]), (1000002501, some [.ro (List.map ShardCell.ds a1.cells), .ro (List.map ShardVar.ds a1.vars), .ro (List.map ShardRedex.ds a1.redexes)])]⟩) := by
  induction n with
  | zero => exact ((fun _ _ _ _ h => by rw [s_SameShard_l3] at h; cases h))
  | succ n ih =>
    have ih0 := ih
    · intro a0 a1 p2_0 r h
      rw [s_SameShard_l3] at h
      refine posF_of rfl rfl ?_
      try simp only [go_sem]
      refine loop_i ?_
      try simp only [go_sem]
      refine cond_i (fun hb4 => ?_) (fun hb4 => ?_)
      · replace h := ifT (c := (decide (p2_0 < ((List.length a0.cells : Nat) : Int)))) hb4 h
        try simp only [go_sem]
        refine seq_go ?_
        try simp only [go_sem]
        refine draw_i [] .fin (by kernel_rfl) ?_
        try simp only [go_sem]
        replace h := bindE h
        obtain ⟨v7003, hv7003, h⟩ := h
        refine idx_m hv7003 (ShardCell.ds_len _) ?_
        try simp only [go_sem]
        replace h := bindE h
        obtain ⟨v7007, hv7007, h⟩ := h
        refine idx_m hv7007 (ShardCell.ds_len _) ?_
        try simp only [go_sem]
        replace h := bindE h
        obtain ⟨v7008, hv7008, h⟩ := h
        refine call_i (s_l27SameCell_ok _ _ _ hv7008) ?_
        try simp only [go_sem]
        refine seq_go ?_
        try simp only [go_sem]
        refine cond_i (fun hb5 => ?_) (fun hb5 => ?_)
        · replace h := ifT (c := (!v7008)) hb5 h
          try simp only [go_sem]
          replace h := Option.some.inj h
          obtain rfl := h
          simp only [go_sem]
        · replace h := ifF (c := (!v7008)) hb5 h
          try simp only [go_sem]
          refine seq_go ?_
          try simp only [go_sem]
          have hj := posF_to rfl rfl (ih0 a0 a1 (IntKind.i64.wrap (p2_0 + 1)) _ h)
          refine lp_to hj (.one ⟨_, .done _, [], [(1000002500, 1000002500), (1000002501, 1000002501)], ?_⟩)
          clear hj
          try simp only [go_sem]
      · replace h := ifF (c := (decide (p2_0 < ((List.length a0.cells : Nat) : Int)))) hb4 h
        try simp only [go_sem]
        refine seq_go ?_
        try simp only [go_sem]
        have hj := posF_to rfl rfl (s_SameShard_l5_ok fuel a0 a1 0 _ h)
        refine loop_to hj (.one ⟨_, .done _, [], [(1000004500, 1000002500), (1000004501, 1000002501)], ?_⟩)
        clear hj
        try simp only [go_sem]
theorem s_SameShard_l3_ok (n : Nat) : (∀ (a0 : Shard) (a1 : Shard) (p2_0 : Int) (r : Bool), s_SameShard_l3 n a0 a1 p2_0 = some r → posF Try.prog Try.f247 [1, 1, 0, 1, 0] (.bool r) ⟨[(2, .box 1000002500 0), (3, .box 1000002501 0), (5, .int .i64 p2_0)], [], [(1000002500, some [.ro (List.map ShardCell.ds a0.cells), .ro (List.map ShardVar.ds a0.vars), .ro (List.map ShardRedex.ds a0.redexes)]), (1000002501, some [.ro (List.map ShardCell.ds a1.cells), .ro (List.map ShardVar.ds a1.vars), .ro (List.map ShardRedex.ds a1.redexes)])]⟩) := (s_SameShard_l3_all n)

theorem s_SameShard_j1_ok (a0 : Shard) (a1 : Shard) (p0_0 : Bool) (r : Bool) (h : s_SameShard_j1 a0 a1 p0_0 = some r) : posF Try.prog Try.f247 [1, 0, 1] (.bool r) ⟨[(2, .box 1000000500 0), (3, .box 1000000501 0), (32, .bool p0_0)], [], [(1000000500, some [.ro (List.map ShardCell.ds a0.cells), .ro (List.map ShardVar.ds a0.vars), .ro (List.map ShardRedex.ds a0.redexes)]), (1000000501, some [.ro (List.map ShardCell.ds a1.cells), .ro (List.map ShardVar.ds a1.vars), .ro (List.map ShardRedex.ds a1.redexes)])]⟩ := by
  unfold s_SameShard_j1 at h
  refine posF_of rfl rfl ?_
  try simp only [go_sem]
  refine cond_i (fun hb3 => ?_) (fun hb3 => ?_)
  · replace h := ifT (c := p0_0) hb3 h
    try simp only [go_sem]
    replace h := Option.some.inj h
    obtain rfl := h
    simp only [go_sem]
  · replace h := ifF (c := p0_0) hb3 h
    try simp only [go_sem]
    refine seq_go ?_
    try simp only [go_sem]
    have hj := posF_to rfl rfl (s_SameShard_l3_ok fuel a0 a1 0 _ h)
    refine loop_to hj (.one ⟨_, .done _, [], [(1000002500, 1000000500), (1000002501, 1000000501)], ?_⟩)
    clear hj
    try simp only [go_sem]
theorem s_SameShard_ok (a0 : Shard) (a1 : Shard) (r : Bool) (h : s_SameShard a0 a1 = some r) : AC Try.prog 247 [.agg (Shard.avs a0), .agg (Shard.avs a1)] (.bool r) := by
  unfold s_SameShard at h
  refine ac_fn mixed Try.func247 rfl rfl rfl (by kernel_rfl) (by kernel_rfl) ?_
  try simp only [go_sem]
  refine cond_i (fun hb1 => ?_) (fun hb1 => ?_)
  · replace h := ifT (c := (!decide (((List.length a0.cells : Nat) : Int) = ((List.length a1.cells : Nat) : Int)))) hb1 h
    try simp only [go_sem]
    have hj := posF_to rfl rfl (s_SameShard_j1_ok a0 a1 true _ h)
    refine seq_to hj (.one ⟨_, .done _, [], [(1000000500, 1000), (1000000501, 1001)], ?_⟩)
    clear hj
    try simp only [go_sem]
  · replace h := ifF (c := (!decide (((List.length a0.cells : Nat) : Int) = ((List.length a1.cells : Nat) : Int)))) hb1 h
    try simp only [go_sem]
    refine cond_i (fun hb2 => ?_) (fun hb2 => ?_)
    · replace h := ifT (c := (!decide (((List.length a0.vars : Nat) : Int) = ((List.length a1.vars : Nat) : Int)))) hb2 h
      try simp only [go_sem]
      have hj := posF_to rfl rfl (s_SameShard_j1_ok a0 a1 true _ h)
      refine seq_to hj (.one ⟨_, .done _, [], [(1000000500, 1000), (1000000501, 1001)], ?_⟩)
      clear hj
      try simp only [go_sem]
    · replace h := ifF (c := (!decide (((List.length a0.vars : Nat) : Int) = ((List.length a1.vars : Nat) : Int)))) hb2 h
      try simp only [go_sem]
      have hj := posF_to rfl rfl (s_SameShard_j1_ok a0 a1 (!decide (((List.length a0.redexes : Nat) : Int) = ((List.length a1.redexes : Nat) : Int))) _ h)
      refine seq_to hj (.one ⟨_, .done _, [], [(1000000500, 1000), (1000000501, 1001)], ?_⟩)
      clear hj
      try simp only [go_sem]
theorem s_SameGrid_l3_all (n : Nat) : (∀ (a0 : Grid) (a1 : Grid) (p2_0 : Int) (r : Bool), s_SameGrid_l3 n a0 a1 p2_0 = some r → posF Try.prog Try.f178 [1, 1, 0, 1, 0] (.bool r) ⟨[(2, .box 1000002500 0), (3, .box 1000002501 0), (5, .int .i64 p2_0)], [], [(1000002500, some [.ro (List.map Shard.ds a0.shards), .int .i64 a0.root.machine, .int .i64 a0.root.kind, .int .i64 a0.root.index]), (1000002501, some [.ro (List.map Shard.ds a1.shards), .int .i64 a1.root.machine, .int .i64 a1.root.kind, .int .i64 a1.root.index])]⟩) := by
  induction n with
  | zero => exact ((fun _ _ _ _ h => by rw [s_SameGrid_l3] at h; cases h))
  | succ n ih =>
    have ih0 := ih
    · intro a0 a1 p2_0 r h
      rw [s_SameGrid_l3] at h
      refine posF_of rfl rfl ?_
      try simp only [go_sem]
      refine loop_i ?_
      try simp only [go_sem]
      refine cond_i (fun hb3 => ?_) (fun hb3 => ?_)
      · replace h := ifT (c := (decide (p2_0 < ((List.length a0.shards : Nat) : Int)))) hb3 h
        try simp only [go_sem]
        refine seq_go ?_
        try simp only [go_sem]
        refine draw_i [] .fin (by kernel_rfl) ?_
        try simp only [go_sem]
        replace h := bindE h
        obtain ⟨v7003, hv7003, h⟩ := h
        refine idx_m hv7003 (Shard.ds_len _) ?_
        try simp only [go_sem]
        replace h := bindE h
        obtain ⟨v7008, hv7008, h⟩ := h
        refine idx_m hv7008 (Shard.ds_len _) ?_
        try simp only [go_sem]
        replace h := bindE h
        obtain ⟨v7010, hv7010, h⟩ := h
        refine call_i (s_SameShard_ok _ _ _ hv7010) ?_
        try simp only [go_sem]
        refine seq_go ?_
        try simp only [go_sem]
        refine cond_i (fun hb4 => ?_) (fun hb4 => ?_)
        · replace h := ifT (c := (!v7010)) hb4 h
          try simp only [go_sem]
          replace h := Option.some.inj h
          obtain rfl := h
          simp only [go_sem]
        · replace h := ifF (c := (!v7010)) hb4 h
          try simp only [go_sem]
          refine seq_go ?_
          try simp only [go_sem]
          have hj := posF_to rfl rfl (ih0 a0 a1 (IntKind.i64.wrap (p2_0 + 1)) _ h)
          refine lp_to hj (.one ⟨_, .done _, [], [(1000002500, 1000002500), (1000002501, 1000002501)], ?_⟩)
          clear hj
          try simp only [go_sem]
      · replace h := ifF (c := (decide (p2_0 < ((List.length a0.shards : Nat) : Int)))) hb3 h
        try simp only [go_sem]
        refine seq_go ?_
        try simp only [go_sem]
        replace h := Option.some.inj h
        obtain rfl := h
        simp only [go_sem]
theorem s_SameGrid_l3_ok (n : Nat) : (∀ (a0 : Grid) (a1 : Grid) (p2_0 : Int) (r : Bool), s_SameGrid_l3 n a0 a1 p2_0 = some r → posF Try.prog Try.f178 [1, 1, 0, 1, 0] (.bool r) ⟨[(2, .box 1000002500 0), (3, .box 1000002501 0), (5, .int .i64 p2_0)], [], [(1000002500, some [.ro (List.map Shard.ds a0.shards), .int .i64 a0.root.machine, .int .i64 a0.root.kind, .int .i64 a0.root.index]), (1000002501, some [.ro (List.map Shard.ds a1.shards), .int .i64 a1.root.machine, .int .i64 a1.root.kind, .int .i64 a1.root.index])]⟩) := (s_SameGrid_l3_all n)

theorem s_SameGrid_j1_ok (a0 : Grid) (a1 : Grid) (p0_0 : Bool) (r : Bool) (h : s_SameGrid_j1 a0 a1 p0_0 = some r) : posF Try.prog Try.f178 [1, 0, 1] (.bool r) ⟨[(2, .box 1000000500 0), (3, .box 1000000501 0), (19, .bool p0_0)], [], [(1000000500, some [.ro (List.map Shard.ds a0.shards), .int .i64 a0.root.machine, .int .i64 a0.root.kind, .int .i64 a0.root.index]), (1000000501, some [.ro (List.map Shard.ds a1.shards), .int .i64 a1.root.machine, .int .i64 a1.root.kind, .int .i64 a1.root.index])]⟩ := by
  unfold s_SameGrid_j1 at h
  refine posF_of rfl rfl ?_
  try simp only [go_sem]
  refine cond_i (fun hb2 => ?_) (fun hb2 => ?_)
  · replace h := ifT (c := p0_0) hb2 h
    try simp only [go_sem]
    replace h := Option.some.inj h
    obtain rfl := h
    simp only [go_sem]
  · replace h := ifF (c := p0_0) hb2 h
    try simp only [go_sem]
    refine seq_go ?_
    try simp only [go_sem]
    have hj := posF_to rfl rfl (s_SameGrid_l3_ok fuel a0 a1 0 _ h)
    refine loop_to hj (.one ⟨_, .done _, [], [(1000002500, 1000000500), (1000002501, 1000000501)], ?_⟩)
    clear hj
    try simp only [go_sem]
theorem s_SameGrid_ok (a0 : Grid) (a1 : Grid) (r : Bool) (h : s_SameGrid a0 a1 = some r) : AC Try.prog 178 [.agg (Grid.avs a0), .agg (Grid.avs a1)] (.bool r) := by
  unfold s_SameGrid at h
  refine ac_fn mixed Try.func178 rfl rfl rfl (by kernel_rfl) (by kernel_rfl) ?_
  try simp only [go_sem]
  refine cond_i (fun hb1 => ?_) (fun hb1 => ?_)
  · replace h := ifT (c := (!(decide (a0.root.machine = a1.root.machine) && (decide (a0.root.kind = a1.root.kind) && decide (a0.root.index = a1.root.index))))) hb1 h
    try simp only [go_sem]
    have hj := posF_to rfl rfl (s_SameGrid_j1_ok a0 a1 true _ h)
    refine seq_to hj (.one ⟨_, .done _, [], [(1000000500, 1000), (1000000501, 1001)], ?_⟩)
    clear hj
    try simp only [go_sem]
  · replace h := ifF (c := (!(decide (a0.root.machine = a1.root.machine) && (decide (a0.root.kind = a1.root.kind) && decide (a0.root.index = a1.root.index))))) hb1 h
    try simp only [go_sem]
    have hj := posF_to rfl rfl (s_SameGrid_j1_ok a0 a1 (!decide (((List.length a0.shards : Nat) : Int) = ((List.length a1.shards : Nat) : Int))) _ h)
    refine seq_to hj (.one ⟨_, .done _, [], [(1000000500, 1000), (1000000501, 1001)], ?_⟩)
    clear hj
    try simp only [go_sem]
theorem s_l29SameParcel_ok (a0 : Parcel) (a1 : Parcel) (r : Bool) (h : s_l29SameParcel a0 a1 = some r) : AC Try.prog 249 [.rop (Parcel.avs a0) 0, .rop (Parcel.avs a1) 0] (.bool r) := by
  unfold s_l29SameParcel at h
  refine ac_fn mixed Try.func249 rfl rfl rfl (by kernel_rfl) (by kernel_rfl) ?_
  try simp only [go_sem]
  refine draw_i [] .fin (by kernel_rfl) ?_
  try simp only [go_sem]
  refine cond_i (fun hb1 => ?_) (fun hb1 => ?_)
  · replace h := ifT (c := (decide (a0.kind = a1.kind))) hb1 h
    try simp only [go_sem]
    replace h := bindE h
    obtain ⟨v2016, hv2016, h⟩ := h
    refine call_i (ac_sub (s_l27SameCell_ok _ _ _ hv2016) (.cons (.rop rfl) (.cons (.rop rfl) .nil))) ?_
    try simp only [go_sem]
    refine cond_i (fun hb2 => ?_) (fun hb2 => ?_)
    · replace h := ifT (c := v2016) hb2 h
      try simp only [go_sem]
      refine cond_i (fun hb3 => ?_) (fun hb3 => ?_)
      · replace h := ifT (c := (decide (a0.a.machine = a1.a.machine) && (decide (a0.a.kind = a1.a.kind) && decide (a0.a.index = a1.a.index)))) hb3 h
        try simp only [go_sem]
        refine seq_go ?_
        try simp only [go_sem]
        replace h := Option.some.inj h
        obtain rfl := h
        simp only [go_sem]
      · replace h := ifF (c := (decide (a0.a.machine = a1.a.machine) && (decide (a0.a.kind = a1.a.kind) && decide (a0.a.index = a1.a.index)))) hb3 h
        try simp only [go_sem]
        refine seq_go ?_
        try simp only [go_sem]
        replace h := Option.some.inj h
        obtain rfl := h
        simp only [go_sem]
    · replace h := ifF (c := v2016) hb2 h
      try simp only [go_sem]
      refine seq_go ?_
      try simp only [go_sem]
      replace h := Option.some.inj h
      obtain rfl := h
      simp only [go_sem]
  · replace h := ifF (c := (decide (a0.kind = a1.kind))) hb1 h
    try simp only [go_sem]
    refine seq_go ?_
    try simp only [go_sem]
    replace h := Option.some.inj h
    obtain rfl := h
    simp only [go_sem]
theorem s_l29SameChannels_l3_all (n : Nat) : (∀ (a0 : List (List Parcel)) (a1 : List (List Parcel)) (p0_0 : Int) (r : Bool), s_l29SameChannels_l3 n a0 a1 p0_0 = some r → posF Try.prog Try.f179 [1, 1, 0, 1, 0] (.bool r) ⟨[(0, .ro (List.map (slD Parcel.ds) a0)), (1, .ro (List.map (slD Parcel.ds) a1)), (5, .int .i64 p0_0)], [], []⟩) ∧
    (∀ (a0 : List (List Parcel)) (a1 : List (List Parcel)) (p0_0 : Int) (p1_0 : Int) (r : Bool), s_l29SameChannels_l4 n a0 a1 p0_0 p1_0 = some r → posF Try.prog Try.f179 [1, 1, 0, 1, 0, 0, 1, 0, 0, 1, 1, 0] (.bool r) ⟨[(0, .ro (List.map (slD Parcel.ds) a0)), (1, .ro (List.map (slD Parcel.ds) a1)), (5, .int .i64 p0_0), (6, .int .i64 p1_0)], [], []⟩) := by
  induction n with
  | zero => exact ⟨(fun _ _ _ _ h => by rw [s_l29SameChannels_l3] at h; cases h), (fun _ _ _ _ _ h => by rw [s_l29SameChannels_l4] at h; cases h)⟩
  | succ n ih =>
    obtain ⟨ih0, ih1⟩ := ih
    refine ⟨?_, ?_⟩
    · intro a0 a1 p0_0 r h
      rw [s_l29SameChannels_l3] at h
      refine posF_of rfl rfl ?_
      try simp only [go_sem]
      refine loop_i ?_
      try simp only [go_sem]
      refine cond_i (fun hb2 => ?_) (fun hb2 => ?_)
      · replace h := ifT (c := (decide (p0_0 < ((List.length a0 : Nat) : Int)))) hb2 h
        try simp only [go_sem]
        refine seq_go ?_
        try simp only [go_sem]
        refine draw_i [] .fin (by kernel_rfl) ?_
        try simp only [go_sem]
        replace h := bindE h
        obtain ⟨v7002, hv7002, h⟩ := h
        refine idx_m hv7002 rfl ?_
        try simp only [go_sem]
        replace h := bindE h
        obtain ⟨v7007, hv7007, h⟩ := h
        refine idx_m hv7007 rfl ?_
        try simp only [go_sem]
        refine seq_go ?_
        try simp only [go_sem]
        refine cond_i (fun hb3 => ?_) (fun hb3 => ?_)
        · replace h := ifT (c := (!decide (((List.length v7002 : Nat) : Int) = ((List.length v7007 : Nat) : Int)))) hb3 h
          try simp only [go_sem]
          replace h := Option.some.inj h
          obtain rfl := h
          simp only [go_sem]
        · replace h := ifF (c := (!decide (((List.length v7002 : Nat) : Int) = ((List.length v7007 : Nat) : Int)))) hb3 h
          try simp only [go_sem]
          refine seq_go ?_
          try simp only [go_sem]
          have hj := posF_to rfl rfl (ih1 a0 a1 p0_0 0 _ h)
          refine loop_to hj (.one ⟨_, .done _, [], [], ?_⟩)
          clear hj
          try simp only [go_sem]
      · replace h := ifF (c := (decide (p0_0 < ((List.length a0 : Nat) : Int)))) hb2 h
        try simp only [go_sem]
        refine seq_go ?_
        try simp only [go_sem]
        replace h := Option.some.inj h
        obtain rfl := h
        simp only [go_sem]
    · intro a0 a1 p0_0 p1_0 r h
      rw [s_l29SameChannels_l4] at h
      refine posF_of rfl rfl ?_
      try simp only [go_sem]
      refine loop_i ?_
      try simp only [go_sem]
      replace h := bindE h
      obtain ⟨v10003, hv10003, h⟩ := h
      refine idx_m hv10003 rfl ?_
      try simp only [go_sem]
      refine cond_i (fun hb4 => ?_) (fun hb4 => ?_)
      · replace h := ifT (c := (decide (p1_0 < ((List.length v10003 : Nat) : Int)))) hb4 h
        try simp only [go_sem]
        refine seq_go ?_
        try simp only [go_sem]
        refine draw_i [] .fin (by kernel_rfl) ?_
        try simp only [go_sem]
        replace h := bindE h
        obtain ⟨v12002, hv12002, h⟩ := h
        refine idx_m hv12002 rfl ?_
        try simp only [go_sem]
        replace h := bindE h
        obtain ⟨v12005, hv12005, h⟩ := h
        refine idx_m hv12005 (Parcel.ds_len _) ?_
        try simp only [go_sem]
        replace h := bindE h
        obtain ⟨v12008, hv12008, h⟩ := h
        refine idx_m hv12008 rfl ?_
        try simp only [go_sem]
        replace h := bindE h
        obtain ⟨v12011, hv12011, h⟩ := h
        refine idx_m hv12011 (Parcel.ds_len _) ?_
        try simp only [go_sem]
        replace h := bindE h
        obtain ⟨v12012, hv12012, h⟩ := h
        refine call_i (s_l29SameParcel_ok _ _ _ hv12012) ?_
        try simp only [go_sem]
        refine seq_go ?_
        try simp only [go_sem]
        refine cond_i (fun hb5 => ?_) (fun hb5 => ?_)
        · replace h := ifT (c := (!v12012)) hb5 h
          try simp only [go_sem]
          replace h := Option.some.inj h
          obtain rfl := h
          simp only [go_sem]
        · replace h := ifF (c := (!v12012)) hb5 h
          try simp only [go_sem]
          refine seq_go ?_
          try simp only [go_sem]
          have hj := posF_to rfl rfl (ih1 a0 a1 p0_0 (IntKind.i64.wrap (p1_0 + 1)) _ h)
          refine lp_to hj (.one ⟨_, .done _, [], [], ?_⟩)
          clear hj
          try simp only [go_sem]
      · replace h := ifF (c := (decide (p1_0 < ((List.length v10003 : Nat) : Int)))) hb4 h
        try simp only [go_sem]
        refine seq_go ?_
        try simp only [go_sem]
        have hj := posF_to rfl rfl (ih0 a0 a1 (IntKind.i64.wrap (p0_0 + 1)) _ h)
        refine lp_to hj (.one ⟨_, .done _, [], [], ?_⟩)
        clear hj
        try simp only [go_sem]
theorem s_l29SameChannels_l3_ok (n : Nat) : (∀ (a0 : List (List Parcel)) (a1 : List (List Parcel)) (p0_0 : Int) (r : Bool), s_l29SameChannels_l3 n a0 a1 p0_0 = some r → posF Try.prog Try.f179 [1, 1, 0, 1, 0] (.bool r) ⟨[(0, .ro (List.map (slD Parcel.ds) a0)), (1, .ro (List.map (slD Parcel.ds) a1)), (5, .int .i64 p0_0)], [], []⟩) := (s_l29SameChannels_l3_all n).1
theorem s_l29SameChannels_l4_ok (n : Nat) : (∀ (a0 : List (List Parcel)) (a1 : List (List Parcel)) (p0_0 : Int) (p1_0 : Int) (r : Bool), s_l29SameChannels_l4 n a0 a1 p0_0 p1_0 = some r → posF Try.prog Try.f179 [1, 1, 0, 1, 0, 0, 1, 0, 0, 1, 1, 0] (.bool r) ⟨[(0, .ro (List.map (slD Parcel.ds) a0)), (1, .ro (List.map (slD Parcel.ds) a1)), (5, .int .i64 p0_0), (6, .int .i64 p1_0)], [], []⟩) := (s_l29SameChannels_l3_all n).2

theorem s_l29SameChannels_ok (a0 : List (List Parcel)) (a1 : List (List Parcel)) (r : Bool) (h : s_l29SameChannels a0 a1 = some r) : AC Try.prog 179 [.ro (List.map (slD Parcel.ds) a0), .ro (List.map (slD Parcel.ds) a1)] (.bool r) := by
  unfold s_l29SameChannels at h
  refine ac_fn mixed Try.func179 rfl rfl rfl (by kernel_rfl) (by kernel_rfl) ?_
  try simp only [go_sem]
  refine cond_i (fun hb1 => ?_) (fun hb1 => ?_)
  · replace h := ifT (c := (!decide (((List.length a0 : Nat) : Int) = ((List.length a1 : Nat) : Int)))) hb1 h
    try simp only [go_sem]
    replace h := Option.some.inj h
    obtain rfl := h
    simp only [go_sem]
  · replace h := ifF (c := (!decide (((List.length a0 : Nat) : Int) = ((List.length a1 : Nat) : Int)))) hb1 h
    try simp only [go_sem]
    refine seq_go ?_
    try simp only [go_sem]
    have hj := posF_to rfl rfl (s_l29SameChannels_l3_ok fuel a0 a1 0 _ h)
    refine loop_to hj (.one ⟨_, .done _, [], [], ?_⟩)
    clear hj
    try simp only [go_sem]
theorem s_l29SameLists_l1_all (n : Nat) : (∀ (a0 : List (List Int)) (a1 : List (List Int)) (p0_0 : Int) (r : Bool), s_l29SameLists_l1 n a0 a1 p0_0 = some r → posF Try.prog Try.f180 [1, 1, 0, 1, 0] (.bool r) ⟨[(0, .ro (List.map (slD i64D) a0)), (1, .ro (List.map (slD i64D) a1)), (5, .int .i64 p0_0)], [], []⟩) := by
  induction n with
  | zero => exact ((fun _ _ _ _ h => by rw [s_l29SameLists_l1] at h; cases h))
  | succ n ih =>
    have ih0 := ih
    · intro a0 a1 p0_0 r h
      rw [s_l29SameLists_l1] at h
      refine posF_of rfl rfl ?_
      try simp only [go_sem]
      refine loop_i ?_
      try simp only [go_sem]
      refine cond_i (fun hb2 => ?_) (fun hb2 => ?_)
      · replace h := ifT (c := (decide (p0_0 < ((List.length a0 : Nat) : Int)))) hb2 h
        try simp only [go_sem]
        refine seq_go ?_
        try simp only [go_sem]
        refine draw_i [] .fin (by kernel_rfl) ?_
        try simp only [go_sem]
        replace h := bindE h
        obtain ⟨v7002, hv7002, h⟩ := h
        refine idx_m hv7002 rfl ?_
        try simp only [go_sem]
        replace h := bindE h
        obtain ⟨v7006, hv7006, h⟩ := h
        refine idx_m hv7006 rfl ?_
        try simp only [go_sem]
        replace h := bindE h
        obtain ⟨v7008, hv7008, h⟩ := h
        refine call_i (s_l00Same_ok _ _ _ hv7008) ?_
        try simp only [go_sem]
        refine seq_go ?_
        try simp only [go_sem]
        refine cond_i (fun hb3 => ?_) (fun hb3 => ?_)
        · replace h := ifT (c := (!v7008)) hb3 h
          try simp only [go_sem]
          replace h := Option.some.inj h
          obtain rfl := h
          simp only [go_sem]
        · replace h := ifF (c := (!v7008)) hb3 h
          try simp only [go_sem]
          refine seq_go ?_
          try simp only [go_sem]
          have hj := posF_to rfl rfl (ih0 a0 a1 (IntKind.i64.wrap (p0_0 + 1)) _ h)
          refine lp_to hj (.one ⟨_, .done _, [], [], ?_⟩)
          clear hj
          try simp only [go_sem]
      · replace h := ifF (c := (decide (p0_0 < ((List.length a0 : Nat) : Int)))) hb2 h
        try simp only [go_sem]
        refine seq_go ?_
        try simp only [go_sem]
        replace h := Option.some.inj h
        obtain rfl := h
        simp only [go_sem]
theorem s_l29SameLists_l1_ok (n : Nat) : (∀ (a0 : List (List Int)) (a1 : List (List Int)) (p0_0 : Int) (r : Bool), s_l29SameLists_l1 n a0 a1 p0_0 = some r → posF Try.prog Try.f180 [1, 1, 0, 1, 0] (.bool r) ⟨[(0, .ro (List.map (slD i64D) a0)), (1, .ro (List.map (slD i64D) a1)), (5, .int .i64 p0_0)], [], []⟩) := (s_l29SameLists_l1_all n)

theorem s_l29SameLists_ok (a0 : List (List Int)) (a1 : List (List Int)) (r : Bool) (h : s_l29SameLists a0 a1 = some r) : AC Try.prog 180 [.ro (List.map (slD i64D) a0), .ro (List.map (slD i64D) a1)] (.bool r) := by
  unfold s_l29SameLists at h
  refine ac_fn mixed Try.func180 rfl rfl rfl (by kernel_rfl) (by kernel_rfl) ?_
  try simp only [go_sem]
  refine cond_i (fun hb1 => ?_) (fun hb1 => ?_)
  · replace h := ifT (c := (!decide (((List.length a0 : Nat) : Int) = ((List.length a1 : Nat) : Int)))) hb1 h
    try simp only [go_sem]
    replace h := Option.some.inj h
    obtain rfl := h
    simp only [go_sem]
  · replace h := ifF (c := (!decide (((List.length a0 : Nat) : Int) = ((List.length a1 : Nat) : Int)))) hb1 h
    try simp only [go_sem]
    refine seq_go ?_
    try simp only [go_sem]
    have hj := posF_to rfl rfl (s_l29SameLists_l1_ok fuel a0 a1 0 _ h)
    refine loop_to hj (.one ⟨_, .done _, [], [], ?_⟩)
    clear hj
    try simp only [go_sem]
theorem s_SameCluster_ok (a0 : Cluster) (a1 : Cluster) (r : Bool) (h : s_SameCluster a0 a1 = some r) : AC Try.prog 98 [.agg (Cluster.avs a0), .agg (Cluster.avs a1)] (.bool r) := by
  unfold s_SameCluster at h
  refine ac_fn mixed Try.func98 rfl rfl rfl (by kernel_rfl) (by kernel_rfl) ?_
  try simp only [go_sem]
  replace h := bindE h
  obtain ⟨v2004, hv2004, h⟩ := h
  refine call_i (s_SameGrid_ok _ _ _ hv2004) ?_
  try simp only [go_sem]
  refine cond_i (fun hb1 => ?_) (fun hb1 => ?_)
  · replace h := ifT (c := v2004) hb1 h
    try simp only [go_sem]
    replace h := bindE h
    obtain ⟨v2010, hv2010, h⟩ := h
    refine call_i (s_l29SameChannels_ok _ _ _ hv2010) ?_
    try simp only [go_sem]
    refine cond_i (fun hb2 => ?_) (fun hb2 => ?_)
    · replace h := ifT (c := v2010) hb2 h
      try simp only [go_sem]
      replace h := bindE h
      obtain ⟨v2017, hv2017, h⟩ := h
      refine call_i (s_l29SameLists_ok _ _ _ hv2017) ?_
      try simp only [go_sem]
      refine cond_i (fun hb3 => ?_) (fun hb3 => ?_)
      · replace h := ifT (c := v2017) hb3 h
        try simp only [go_sem]
        replace h := bindE h
        obtain ⟨v2024, hv2024, h⟩ := h
        refine call_i (s_l00Same_ok _ _ _ hv2024) ?_
        try simp only [go_sem]
        refine cond_i (fun hb4 => ?_) (fun hb4 => ?_)
        · replace h := ifT (c := v2024) hb4 h
          try simp only [go_sem]
          replace h := bindE h
          obtain ⟨v2031, hv2031, h⟩ := h
          refine call_i (s_l00Same_ok _ _ _ hv2031) ?_
          try simp only [go_sem]
          refine seq_go ?_
          try simp only [go_sem]
          replace h := Option.some.inj h
          obtain rfl := h
          simp only [go_sem]
        · replace h := ifF (c := v2024) hb4 h
          try simp only [go_sem]
          refine seq_go ?_
          try simp only [go_sem]
          replace h := Option.some.inj h
          obtain rfl := h
          simp only [go_sem]
      · replace h := ifF (c := v2017) hb3 h
        try simp only [go_sem]
        refine seq_go ?_
        try simp only [go_sem]
        replace h := Option.some.inj h
        obtain rfl := h
        simp only [go_sem]
    · replace h := ifF (c := v2010) hb2 h
      try simp only [go_sem]
      refine seq_go ?_
      try simp only [go_sem]
      replace h := Option.some.inj h
      obtain rfl := h
      simp only [go_sem]
  · replace h := ifF (c := v2004) hb1 h
    try simp only [go_sem]
    refine seq_go ?_
    try simp only [go_sem]
    replace h := Option.some.inj h
    obtain rfl := h
    simp only [go_sem]
theorem s_l30SameBools_l1_all (n : Nat) : (∀ (a0 : List Bool) (a1 : List Bool) (p0_0 : Int) (r : Bool), s_l30SameBools_l1 n a0 a1 p0_0 = some r → posF Try.prog Try.f248 [1, 1, 0, 1, 0] (.bool r) ⟨[(0, .ro (List.map boolD a0)), (1, .ro (List.map boolD a1)), (5, .int .i64 p0_0)], [], []⟩) := by
  induction n with
  | zero => exact ((fun _ _ _ _ h => by rw [s_l30SameBools_l1] at h; cases h))
  | succ n ih =>
    have ih0 := ih
    · intro a0 a1 p0_0 r h
      rw [s_l30SameBools_l1] at h
      refine posF_of rfl rfl ?_
      try simp only [go_sem]
      refine loop_i ?_
      try simp only [go_sem]
      refine cond_i (fun hb2 => ?_) (fun hb2 => ?_)
      · replace h := ifT (c := (decide (p0_0 < ((List.length a0 : Nat) : Int)))) hb2 h
        try simp only [go_sem]
        refine seq_go ?_
        try simp only [go_sem]
        refine draw_i [] .fin (by kernel_rfl) ?_
        try simp only [go_sem]
        replace h := bindE h
        obtain ⟨v7002, hv7002, h⟩ := h
        refine idx_m hv7002 rfl ?_
        try simp only [go_sem]
        replace h := bindE h
        obtain ⟨v7006, hv7006, h⟩ := h
        refine idx_m hv7006 rfl ?_
        try simp only [go_sem]
        refine seq_go ?_
        try simp only [go_sem]
        refine cond_i (fun hb3 => ?_) (fun hb3 => ?_)
        · replace h := ifT (c := (!(v7002 == v7006))) hb3 h
          try simp only [go_sem]
          replace h := Option.some.inj h
          obtain rfl := h
          simp only [go_sem]
        · replace h := ifF (c := (!(v7002 == v7006))) hb3 h
          try simp only [go_sem]
          refine seq_go ?_
          try simp only [go_sem]
          have hj := posF_to rfl rfl (ih0 a0 a1 (IntKind.i64.wrap (p0_0 + 1)) _ h)
          refine lp_to hj (.one ⟨_, .done _, [], [], ?_⟩)
          clear hj
          try simp only [go_sem]
      · replace h := ifF (c := (decide (p0_0 < ((List.length a0 : Nat) : Int)))) hb2 h
        try simp only [go_sem]
        refine seq_go ?_
        try simp only [go_sem]
        replace h := Option.some.inj h
        obtain rfl := h
        simp only [go_sem]
theorem s_l30SameBools_l1_ok (n : Nat) : (∀ (a0 : List Bool) (a1 : List Bool) (p0_0 : Int) (r : Bool), s_l30SameBools_l1 n a0 a1 p0_0 = some r → posF Try.prog Try.f248 [1, 1, 0, 1, 0] (.bool r) ⟨[(0, .ro (List.map boolD a0)), (1, .ro (List.map boolD a1)), (5, .int .i64 p0_0)], [], []⟩) := (s_l30SameBools_l1_all n)

theorem s_l30SameBools_ok (a0 : List Bool) (a1 : List Bool) (r : Bool) (h : s_l30SameBools a0 a1 = some r) : AC Try.prog 248 [.ro (List.map boolD a0), .ro (List.map boolD a1)] (.bool r) := by
  unfold s_l30SameBools at h
  refine ac_fn mixed Try.func248 rfl rfl rfl (by kernel_rfl) (by kernel_rfl) ?_
  try simp only [go_sem]
  refine cond_i (fun hb1 => ?_) (fun hb1 => ?_)
  · replace h := ifT (c := (!decide (((List.length a0 : Nat) : Int) = ((List.length a1 : Nat) : Int)))) hb1 h
    try simp only [go_sem]
    replace h := Option.some.inj h
    obtain rfl := h
    simp only [go_sem]
  · replace h := ifF (c := (!decide (((List.length a0 : Nat) : Int) = ((List.length a1 : Nat) : Int)))) hb1 h
    try simp only [go_sem]
    refine seq_go ?_
    try simp only [go_sem]
    have hj := posF_to rfl rfl (s_l30SameBools_l1_ok fuel a0 a1 0 _ h)
    refine loop_to hj (.one ⟨_, .done _, [], [], ?_⟩)
    clear hj
    try simp only [go_sem]
theorem s_l30SameShot_l1_all (n : Nat) : (∀ (a0 : Shot) (a1 : Shot) (p0_0 : Int) (r : Bool), s_l30SameShot_l1 n a0 a1 p0_0 = some r → posF Try.prog Try.f177 [1, 1, 0, 1, 0] (.bool r) ⟨[(0, .rop [.ro (List.map boolD a0.taken), .ro (List.map Shard.ds a0.shards), .ro (List.map (slD i64D) a0.counts), .ro (List.map boolD a0.recording), .ro (List.map (slD Parcel.ds) a0.saved)] 0), (1, .rop [.ro (List.map boolD a1.taken), .ro (List.map Shard.ds a1.shards), .ro (List.map (slD i64D) a1.counts), .ro (List.map boolD a1.recording), .ro (List.map (slD Parcel.ds) a1.saved)] 0), (5, .int .i64 p0_0)], [], []⟩) := by
  induction n with
  | zero => exact ((fun _ _ _ _ h => by rw [s_l30SameShot_l1] at h; cases h))
  | succ n ih =>
    have ih0 := ih
    · intro a0 a1 p0_0 r h
      rw [s_l30SameShot_l1] at h
      refine posF_of rfl rfl ?_
      try simp only [go_sem]
      refine loop_i ?_
      try simp only [go_sem]
      refine cond_i (fun hb2 => ?_) (fun hb2 => ?_)
      · replace h := ifT (c := (decide (p0_0 < ((List.length a0.shards : Nat) : Int)))) hb2 h
        try simp only [go_sem]
        refine seq_go ?_
        try simp only [go_sem]
        refine draw_i [] .fin (by kernel_rfl) ?_
        try simp only [go_sem]
        replace h := bindE h
        obtain ⟨v7005, hv7005, h⟩ := h
        refine idx_m hv7005 (Shard.ds_len _) ?_
        try simp only [go_sem]
        replace h := bindE h
        obtain ⟨v7012, hv7012, h⟩ := h
        refine idx_m hv7012 (Shard.ds_len _) ?_
        try simp only [go_sem]
        replace h := bindE h
        obtain ⟨v7014, hv7014, h⟩ := h
        refine call_i (s_SameShard_ok _ _ _ hv7014) ?_
        try simp only [go_sem]
        refine seq_go ?_
        try simp only [go_sem]
        refine cond_i (fun hb3 => ?_) (fun hb3 => ?_)
        · replace h := ifT (c := (!v7014)) hb3 h
          try simp only [go_sem]
          replace h := Option.some.inj h
          obtain rfl := h
          simp only [go_sem]
        · replace h := ifF (c := (!v7014)) hb3 h
          try simp only [go_sem]
          refine seq_go ?_
          try simp only [go_sem]
          have hj := posF_to rfl rfl (ih0 a0 a1 (IntKind.i64.wrap (p0_0 + 1)) _ h)
          refine lp_to hj (.one ⟨_, .done _, [], [], ?_⟩)
          clear hj
          try simp only [go_sem]
      · replace h := ifF (c := (decide (p0_0 < ((List.length a0.shards : Nat) : Int)))) hb2 h
        try simp only [go_sem]
        refine seq_go ?_
        try simp only [go_sem]
        refine draw_i [] .fin (by kernel_rfl) ?_
        try simp only [go_sem]
        replace h := bindE h
        obtain ⟨v9008, hv9008, h⟩ := h
        refine call_i (s_l30SameBools_ok _ _ _ hv9008) ?_
        try simp only [go_sem]
        refine cond_i (fun hb4 => ?_) (fun hb4 => ?_)
        · replace h := ifT (c := v9008) hb4 h
          try simp only [go_sem]
          replace h := bindE h
          obtain ⟨v9018, hv9018, h⟩ := h
          refine call_i (s_l29SameLists_ok _ _ _ hv9018) ?_
          try simp only [go_sem]
          refine cond_i (fun hb5 => ?_) (fun hb5 => ?_)
          · replace h := ifT (c := v9018) hb5 h
            try simp only [go_sem]
            replace h := bindE h
            obtain ⟨v9029, hv9029, h⟩ := h
            refine call_i (s_l30SameBools_ok _ _ _ hv9029) ?_
            try simp only [go_sem]
            refine cond_i (fun hb6 => ?_) (fun hb6 => ?_)
            · replace h := ifT (c := v9029) hb6 h
              try simp only [go_sem]
              replace h := bindE h
              obtain ⟨v9040, hv9040, h⟩ := h
              refine call_i (s_l29SameChannels_ok _ _ _ hv9040) ?_
              try simp only [go_sem]
              refine seq_go ?_
              try simp only [go_sem]
              replace h := Option.some.inj h
              obtain rfl := h
              simp only [go_sem]
            · replace h := ifF (c := v9029) hb6 h
              try simp only [go_sem]
              refine seq_go ?_
              try simp only [go_sem]
              replace h := Option.some.inj h
              obtain rfl := h
              simp only [go_sem]
          · replace h := ifF (c := v9018) hb5 h
            try simp only [go_sem]
            refine seq_go ?_
            try simp only [go_sem]
            replace h := Option.some.inj h
            obtain rfl := h
            simp only [go_sem]
        · replace h := ifF (c := v9008) hb4 h
          try simp only [go_sem]
          refine seq_go ?_
          try simp only [go_sem]
          replace h := Option.some.inj h
          obtain rfl := h
          simp only [go_sem]
theorem s_l30SameShot_l1_ok (n : Nat) : (∀ (a0 : Shot) (a1 : Shot) (p0_0 : Int) (r : Bool), s_l30SameShot_l1 n a0 a1 p0_0 = some r → posF Try.prog Try.f177 [1, 1, 0, 1, 0] (.bool r) ⟨[(0, .rop [.ro (List.map boolD a0.taken), .ro (List.map Shard.ds a0.shards), .ro (List.map (slD i64D) a0.counts), .ro (List.map boolD a0.recording), .ro (List.map (slD Parcel.ds) a0.saved)] 0), (1, .rop [.ro (List.map boolD a1.taken), .ro (List.map Shard.ds a1.shards), .ro (List.map (slD i64D) a1.counts), .ro (List.map boolD a1.recording), .ro (List.map (slD Parcel.ds) a1.saved)] 0), (5, .int .i64 p0_0)], [], []⟩) := (s_l30SameShot_l1_all n)

theorem s_l30SameShot_ok (a0 : Shot) (a1 : Shot) (r : Bool) (h : s_l30SameShot a0 a1 = some r) : AC Try.prog 177 [.rop (Shot.avs a0) 0, .rop (Shot.avs a1) 0] (.bool r) := by
  unfold s_l30SameShot at h
  refine ac_fn mixed Try.func177 rfl rfl rfl (by kernel_rfl) (by kernel_rfl) ?_
  try simp only [go_sem]
  refine draw_i [] .fin (by kernel_rfl) ?_
  try simp only [go_sem]
  refine seq_go ?_
  try simp only [go_sem]
  refine cond_i (fun hb1 => ?_) (fun hb1 => ?_)
  · replace h := ifT (c := (!decide (((List.length a0.shards : Nat) : Int) = ((List.length a1.shards : Nat) : Int)))) hb1 h
    try simp only [go_sem]
    replace h := Option.some.inj h
    obtain rfl := h
    simp only [go_sem]
  · replace h := ifF (c := (!decide (((List.length a0.shards : Nat) : Int) = ((List.length a1.shards : Nat) : Int)))) hb1 h
    try simp only [go_sem]
    refine seq_go ?_
    try simp only [go_sem]
    have hj := posF_to rfl rfl (s_l30SameShot_l1_ok fuel a0 a1 0 _ h)
    refine loop_to hj (.one ⟨_, .done _, [], [], ?_⟩)
    clear hj
    try simp only [go_sem]
theorem s_SameWatched_ok (a0 : Watched) (a1 : Watched) (r : Bool) (h : s_SameWatched a0 a1 = some r) : AC Try.prog 97 [.agg (Watched.avs a0), .agg (Watched.avs a1)] (.bool r) := by
  unfold s_SameWatched at h
  refine ac_fn mixed Try.func97 rfl rfl rfl (by kernel_rfl) (by kernel_rfl) ?_
  try simp only [go_sem]
  replace h := bindE h
  obtain ⟨v2004, hv2004, h⟩ := h
  refine call_i (s_SameCluster_ok _ _ _ hv2004) ?_
  try simp only [go_sem]
  refine cond_i (fun hb1 => ?_) (fun hb1 => ?_)
  · replace h := ifT (c := v2004) hb1 h
    try simp only [go_sem]
    replace h := bindE h
    obtain ⟨v2008, hv2008, h⟩ := h
    refine call_i (ac_sub (s_l30SameShot_ok _ _ _ hv2008) (.cons (.rop rfl) (.cons (.rop rfl) .nil))) ?_
    try simp only [go_sem]
    refine seq_go ?_
    try simp only [go_sem]
    replace h := Option.some.inj h
    obtain rfl := h
    simp only [go_sem]
  · replace h := ifF (c := v2004) hb1 h
    try simp only [go_sem]
    refine seq_go ?_
    try simp only [go_sem]
    replace h := Option.some.inj h
    obtain rfl := h
    simp only [go_sem]
theorem s_SameService_ok (a0 : Service) (a1 : Service) (r : Bool) (h : s_SameService a0 a1 = some r) : AC Try.prog 37 [.agg (Service.avs a0), .agg (Service.avs a1)] (.bool r) := by
  unfold s_SameService at h
  refine ac_fn mixed Try.func37 rfl rfl rfl (by kernel_rfl) (by kernel_rfl) ?_
  try simp only [go_sem]
  replace h := bindE h
  obtain ⟨v2004, hv2004, h⟩ := h
  refine call_i (s_SameWatched_ok _ _ _ hv2004) ?_
  try simp only [go_sem]
  refine cond_i (fun hb1 => ?_) (fun hb1 => ?_)
  · replace h := ifT (c := v2004) hb1 h
    try simp only [go_sem]
    replace h := bindE h
    obtain ⟨v2010, hv2010, h⟩ := h
    refine call_i (s_SameCluster_ok _ _ _ hv2010) ?_
    try simp only [go_sem]
    refine cond_i (fun hb2 => ?_) (fun hb2 => ?_)
    · replace h := ifT (c := v2010) hb2 h
      try simp only [go_sem]
      refine cond_i (fun hb3 => ?_) (fun hb3 => ?_)
      · replace h := ifT (c := (decide (a0.shots = a1.shots))) hb3 h
        try simp only [go_sem]
        refine seq_go ?_
        try simp only [go_sem]
        replace h := Option.some.inj h
        obtain rfl := h
        simp only [go_sem]
      · replace h := ifF (c := (decide (a0.shots = a1.shots))) hb3 h
        try simp only [go_sem]
        refine seq_go ?_
        try simp only [go_sem]
        replace h := Option.some.inj h
        obtain rfl := h
        simp only [go_sem]
    · replace h := ifF (c := v2010) hb2 h
      try simp only [go_sem]
      refine seq_go ?_
      try simp only [go_sem]
      replace h := Option.some.inj h
      obtain rfl := h
      simp only [go_sem]
  · replace h := ifF (c := v2004) hb1 h
    try simp only [go_sem]
    refine seq_go ?_
    try simp only [go_sem]
    replace h := Option.some.inj h
    obtain rfl := h
    simp only [go_sem]
theorem l_toAddress_ok (a0 : Address) (r : Address) (h : l_toAddress a0 = some r) : AC Try.prog 252 [.agg (Address.avs a0)] (.agg (Address.rv r)) := by
  unfold l_toAddress at h
  refine ac_fn mixed Try.func252 rfl rfl rfl (by kernel_rfl) (by kernel_rfl) ?_
  try simp only [go_sem]
  replace h := Option.some.inj h
  obtain rfl := h
  simp only [go_sem]
theorem l_toAddressS_l2_all (n : Nat) : (∀ (a0 : List Address) (p1_0 : List Address) (p1_1 : Int) (r : (List Address)), l_toAddressS_l2 n a0 p1_0 p1_1 = some r → posF Try.prog Try.f378 [1, 1, 0, 1, 0] (.ow (some 3) (List.map Address.ds r)) ⟨[(0, .ro (List.map Address.ds a0)), (3, .own 1000001000), (4, .int .i64 p1_1)], [(1000001000, some ⟨List.map Address.ds p1_0, some 3, 0⟩)], []⟩) := by
  induction n with
  | zero => exact ((fun _ _ _ _ h => by rw [l_toAddressS_l2] at h; cases h))
  | succ n ih =>
    have ih0 := ih
    · intro a0 p1_0 p1_1 r h
      rw [l_toAddressS_l2] at h
      refine posF_of rfl rfl ?_
      try simp only [go_sem]
      refine loop_i ?_
      try simp only [go_sem]
      refine cond_i (fun hb1 => ?_) (fun hb1 => ?_)
      · replace h := ifT (c := (decide (p1_1 < ((List.length a0 : Nat) : Int)))) hb1 h
        try simp only [go_sem]
        refine seq_go ?_
        try simp only [go_sem]
        replace h := bindE h
        obtain ⟨v6004, hv6004, h⟩ := h
        refine idx_m hv6004 (Address.ds_len _) ?_
        try simp only [go_sem]
        replace h := bindE h
        obtain ⟨v6006, hv6006, h⟩ := h
        refine call_i (l_toAddress_ok _ _ hv6006) ?_
        try simp only [go_sem]
        replace h := bindE h
        obtain ⟨v6007, hv6007, h⟩ := h
        refine idx_m hv6007 (Address.ds_len _) ?_
        try simp only [go_sem]
        replace h := bindE h
        obtain ⟨v6008_12, hv6008_12, h⟩ := h
        refine opt_i (row_m hv6007) ?_
        try simp only [go_sem]
        refine row_i (List.map Address.ds v6008_12) (by rw [← set1_some hv6008_12]; simp only [List.map_set, go_sem, Address.ds_eq]) ?_
        try simp only [go_sem]
        refine seq_go ?_
        try simp only [go_sem]
        have hj := posF_to rfl rfl (ih0 a0 v6008_12 (IntKind.i64.wrap (p1_1 + 1)) _ h)
        refine lp_to hj (.one ⟨_, .done _, [(1000001000, 1000001000)], [], ?_⟩)
        clear hj
        try simp only [go_sem]
      · replace h := ifF (c := (decide (p1_1 < ((List.length a0 : Nat) : Int)))) hb1 h
        try simp only [go_sem]
        refine seq_go ?_
        try simp only [go_sem]
        replace h := Option.some.inj h
        obtain rfl := h
        simp only [go_sem]
theorem l_toAddressS_l2_ok (n : Nat) : (∀ (a0 : List Address) (p1_0 : List Address) (p1_1 : Int) (r : (List Address)), l_toAddressS_l2 n a0 p1_0 p1_1 = some r → posF Try.prog Try.f378 [1, 1, 0, 1, 0] (.ow (some 3) (List.map Address.ds r)) ⟨[(0, .ro (List.map Address.ds a0)), (3, .own 1000001000), (4, .int .i64 p1_1)], [(1000001000, some ⟨List.map Address.ds p1_0, some 3, 0⟩)], []⟩) := (l_toAddressS_l2_all n)

theorem l_toAddressS_ok (a0 : List Address) (r : (List Address)) (h : l_toAddressS a0 = some r) : AC Try.prog 378 [.ro (List.map Address.ds a0)] (.ow (some 3) (List.map Address.ds r)) := by
  unfold l_toAddressS at h
  refine ac_fn mixed Try.func378 rfl rfl rfl (by kernel_rfl) (by kernel_rfl) ?_
  try simp only [go_sem]
  replace h := bindE h
  obtain ⟨v2002, hv2002, h⟩ := h
  have hq_ := rep_some hv2002
  obtain ⟨hv2002a, hv2002b, hv2002c⟩ := hq_
  refine and_i (by refine ⟨?_, ?_, ?_⟩ <;> omega) ?_
  try simp only [go_sem]
  refine row_i (List.map Address.ds v2002) (by rw [← hv2002c]; simp only [List.map_replicate, go_sem, Address.ds_eq]) ?_
  try simp only [go_sem]
  have hj := posF_to rfl rfl (l_toAddressS_l2_ok fuel a0 v2002 0 _ h)
  refine loop_to hj (.one ⟨_, .done _, [(1000001000, 32032)], [], ?_⟩)
  clear hj
  try simp only [go_sem]
theorem l_toShardCell_ok (a0 : ShardCell) (r : ShardCell) (h : l_toShardCell a0 = some r) : AC Try.prog 356 [.agg (ShardCell.avs a0)] (.agg (ShardCell.rv r)) := by
  unfold l_toShardCell at h
  refine ac_fn mixed Try.func356 rfl rfl rfl (by kernel_rfl) (by kernel_rfl) ?_
  try simp only [go_sem]
  replace h := bindE h
  obtain ⟨v6002, hv6002, h⟩ := h
  refine call_i (l_toInt64S_ok _ _ hv6002) ?_
  try simp only [go_sem]
  replace h := bindE h
  obtain ⟨v7002, hv7002, h⟩ := h
  refine call_i (l_toAddressS_ok _ _ hv7002) ?_
  try simp only [go_sem]
  replace h := Option.some.inj h
  obtain rfl := h
  simp only [go_sem]
theorem l_toShardCellS_l2_all (n : Nat) : (∀ (a0 : List ShardCell) (p1_0 : List ShardCell) (p1_1 : Int) (r : (List ShardCell)), l_toShardCellS_l2 n a0 p1_0 p1_1 = some r → posF Try.prog Try.f353 [1, 1, 0, 1, 0] (.ow (some 5) (List.map ShardCell.ds r)) ⟨[(0, .ro (List.map ShardCell.ds a0)), (3, .own 1000001000), (4, .int .i64 p1_1)], [(1000001000, some ⟨List.map ShardCell.ds p1_0, some 5, 0⟩)], []⟩) := by
  induction n with
  | zero => exact ((fun _ _ _ _ h => by rw [l_toShardCellS_l2] at h; cases h))
  | succ n ih =>
    have ih0 := ih
    · intro a0 p1_0 p1_1 r h
      rw [l_toShardCellS_l2] at h
      refine posF_of rfl rfl ?_
      try simp only [go_sem]
      refine loop_i ?_
      try simp only [go_sem]
      refine cond_i (fun hb1 => ?_) (fun hb1 => ?_)
      · replace h := ifT (c := (decide (p1_1 < ((List.length a0 : Nat) : Int)))) hb1 h
        try simp only [go_sem]
        refine seq_go ?_
        try simp only [go_sem]
        replace h := bindE h
        obtain ⟨v6004, hv6004, h⟩ := h
        refine idx_m hv6004 (ShardCell.ds_len _) ?_
        try simp only [go_sem]
        replace h := bindE h
        obtain ⟨v6006, hv6006, h⟩ := h
        refine call_i (l_toShardCell_ok _ _ hv6006) ?_
        try simp only [go_sem]
        replace h := bindE h
        obtain ⟨v6007, hv6007, h⟩ := h
        refine idx_m hv6007 (ShardCell.ds_len _) ?_
        try simp only [go_sem]
        replace h := bindE h
        obtain ⟨v6008_12, hv6008_12, h⟩ := h
        refine opt_i (row_m hv6007) ?_
        try simp only [go_sem]
        refine row_i (List.map ShardCell.ds v6008_12) (by rw [← set1_some hv6008_12]; simp only [List.map_set, go_sem, ShardCell.ds_eq]) ?_
        try simp only [go_sem]
        refine seq_go ?_
        try simp only [go_sem]
        have hj := posF_to rfl rfl (ih0 a0 v6008_12 (IntKind.i64.wrap (p1_1 + 1)) _ h)
        refine lp_to hj (.one ⟨_, .done _, [(1000001000, 1000001000)], [], ?_⟩)
        clear hj
        try simp only [go_sem]
      · replace h := ifF (c := (decide (p1_1 < ((List.length a0 : Nat) : Int)))) hb1 h
        try simp only [go_sem]
        refine seq_go ?_
        try simp only [go_sem]
        replace h := Option.some.inj h
        obtain rfl := h
        simp only [go_sem]
theorem l_toShardCellS_l2_ok (n : Nat) : (∀ (a0 : List ShardCell) (p1_0 : List ShardCell) (p1_1 : Int) (r : (List ShardCell)), l_toShardCellS_l2 n a0 p1_0 p1_1 = some r → posF Try.prog Try.f353 [1, 1, 0, 1, 0] (.ow (some 5) (List.map ShardCell.ds r)) ⟨[(0, .ro (List.map ShardCell.ds a0)), (3, .own 1000001000), (4, .int .i64 p1_1)], [(1000001000, some ⟨List.map ShardCell.ds p1_0, some 5, 0⟩)], []⟩) := (l_toShardCellS_l2_all n)

theorem l_toShardCellS_ok (a0 : List ShardCell) (r : (List ShardCell)) (h : l_toShardCellS a0 = some r) : AC Try.prog 353 [.ro (List.map ShardCell.ds a0)] (.ow (some 5) (List.map ShardCell.ds r)) := by
  unfold l_toShardCellS at h
  refine ac_fn mixed Try.func353 rfl rfl rfl (by kernel_rfl) (by kernel_rfl) ?_
  try simp only [go_sem]
  replace h := bindE h
  obtain ⟨v2002, hv2002, h⟩ := h
  have hq_ := rep_some hv2002
  obtain ⟨hv2002a, hv2002b, hv2002c⟩ := hq_
  refine and_i (by refine ⟨?_, ?_, ?_⟩ <;> omega) ?_
  try simp only [go_sem]
  refine row_i (List.map ShardCell.ds v2002) (by rw [← hv2002c]; simp only [List.map_replicate, go_sem, ShardCell.ds_eq]) ?_
  try simp only [go_sem]
  have hj := posF_to rfl rfl (l_toShardCellS_l2_ok fuel a0 v2002 0 _ h)
  refine loop_to hj (.one ⟨_, .done _, [(1000001000, 32032)], [], ?_⟩)
  clear hj
  try simp only [go_sem]
theorem l_toShardVar_ok (a0 : ShardVar) (r : ShardVar) (h : l_toShardVar a0 = some r) : AC Try.prog 376 [.agg (ShardVar.avs a0)] (.agg (ShardVar.rv r)) := by
  unfold l_toShardVar at h
  refine ac_fn mixed Try.func376 rfl rfl rfl (by kernel_rfl) (by kernel_rfl) ?_
  try simp only [go_sem]
  replace h := bindE h
  obtain ⟨v5002, hv5002, h⟩ := h
  refine call_i (l_toAddress_ok _ _ hv5002) ?_
  try simp only [go_sem]
  replace h := Option.some.inj h
  obtain rfl := h
  simp only [go_sem]
theorem l_toShardVarS_l2_all (n : Nat) : (∀ (a0 : List ShardVar) (p1_0 : List ShardVar) (p1_1 : Int) (r : (List ShardVar)), l_toShardVarS_l2 n a0 p1_0 p1_1 = some r → posF Try.prog Try.f354 [1, 1, 0, 1, 0] (.ow (some 5) (List.map ShardVar.ds r)) ⟨[(0, .ro (List.map ShardVar.ds a0)), (3, .own 1000001000), (4, .int .i64 p1_1)], [(1000001000, some ⟨List.map ShardVar.ds p1_0, some 5, 0⟩)], []⟩) := by
  induction n with
  | zero => exact ((fun _ _ _ _ h => by rw [l_toShardVarS_l2] at h; cases h))
  | succ n ih =>
    have ih0 := ih
    · intro a0 p1_0 p1_1 r h
      rw [l_toShardVarS_l2] at h
      refine posF_of rfl rfl ?_
      try simp only [go_sem]
      refine loop_i ?_
      try simp only [go_sem]
      refine cond_i (fun hb1 => ?_) (fun hb1 => ?_)
      · replace h := ifT (c := (decide (p1_1 < ((List.length a0 : Nat) : Int)))) hb1 h
        try simp only [go_sem]
        refine seq_go ?_
        try simp only [go_sem]
        replace h := bindE h
        obtain ⟨v6004, hv6004, h⟩ := h
        refine idx_m hv6004 (ShardVar.ds_len _) ?_
        try simp only [go_sem]
        replace h := bindE h
        obtain ⟨v6006, hv6006, h⟩ := h
        refine call_i (l_toShardVar_ok _ _ hv6006) ?_
        try simp only [go_sem]
        replace h := bindE h
        obtain ⟨v6007, hv6007, h⟩ := h
        refine idx_m hv6007 (ShardVar.ds_len _) ?_
        try simp only [go_sem]
        replace h := bindE h
        obtain ⟨v6008_12, hv6008_12, h⟩ := h
        refine opt_i (row_m hv6007) ?_
        try simp only [go_sem]
        refine row_i (List.map ShardVar.ds v6008_12) (by rw [← set1_some hv6008_12]; simp only [List.map_set, go_sem, ShardVar.ds_eq]) ?_
        try simp only [go_sem]
        refine seq_go ?_
        try simp only [go_sem]
        have hj := posF_to rfl rfl (ih0 a0 v6008_12 (IntKind.i64.wrap (p1_1 + 1)) _ h)
        refine lp_to hj (.one ⟨_, .done _, [(1000001000, 1000001000)], [], ?_⟩)
        clear hj
        try simp only [go_sem]
      · replace h := ifF (c := (decide (p1_1 < ((List.length a0 : Nat) : Int)))) hb1 h
        try simp only [go_sem]
        refine seq_go ?_
        try simp only [go_sem]
        replace h := Option.some.inj h
        obtain rfl := h
        simp only [go_sem]
theorem l_toShardVarS_l2_ok (n : Nat) : (∀ (a0 : List ShardVar) (p1_0 : List ShardVar) (p1_1 : Int) (r : (List ShardVar)), l_toShardVarS_l2 n a0 p1_0 p1_1 = some r → posF Try.prog Try.f354 [1, 1, 0, 1, 0] (.ow (some 5) (List.map ShardVar.ds r)) ⟨[(0, .ro (List.map ShardVar.ds a0)), (3, .own 1000001000), (4, .int .i64 p1_1)], [(1000001000, some ⟨List.map ShardVar.ds p1_0, some 5, 0⟩)], []⟩) := (l_toShardVarS_l2_all n)

theorem l_toShardVarS_ok (a0 : List ShardVar) (r : (List ShardVar)) (h : l_toShardVarS a0 = some r) : AC Try.prog 354 [.ro (List.map ShardVar.ds a0)] (.ow (some 5) (List.map ShardVar.ds r)) := by
  unfold l_toShardVarS at h
  refine ac_fn mixed Try.func354 rfl rfl rfl (by kernel_rfl) (by kernel_rfl) ?_
  try simp only [go_sem]
  replace h := bindE h
  obtain ⟨v2002, hv2002, h⟩ := h
  have hq_ := rep_some hv2002
  obtain ⟨hv2002a, hv2002b, hv2002c⟩ := hq_
  refine and_i (by refine ⟨?_, ?_, ?_⟩ <;> omega) ?_
  try simp only [go_sem]
  refine row_i (List.map ShardVar.ds v2002) (by rw [← hv2002c]; simp only [List.map_replicate, go_sem, ShardVar.ds_eq]) ?_
  try simp only [go_sem]
  have hj := posF_to rfl rfl (l_toShardVarS_l2_ok fuel a0 v2002 0 _ h)
  refine loop_to hj (.one ⟨_, .done _, [(1000001000, 32032)], [], ?_⟩)
  clear hj
  try simp only [go_sem]
theorem l_toShardRedex_ok (a0 : ShardRedex) (r : ShardRedex) (h : l_toShardRedex a0 = some r) : AC Try.prog 377 [.agg (ShardRedex.avs a0)] (.agg (ShardRedex.rv r)) := by
  unfold l_toShardRedex at h
  refine ac_fn mixed Try.func377 rfl rfl rfl (by kernel_rfl) (by kernel_rfl) ?_
  try simp only [go_sem]
  replace h := bindE h
  obtain ⟨v3002, hv3002, h⟩ := h
  refine call_i (l_toAddress_ok _ _ hv3002) ?_
  try simp only [go_sem]
  replace h := bindE h
  obtain ⟨v4002, hv4002, h⟩ := h
  refine call_i (l_toAddress_ok _ _ hv4002) ?_
  try simp only [go_sem]
  replace h := Option.some.inj h
  obtain rfl := h
  simp only [go_sem]
theorem l_toShardRedexS_l2_all (n : Nat) : (∀ (a0 : List ShardRedex) (p1_0 : List ShardRedex) (p1_1 : Int) (r : (List ShardRedex)), l_toShardRedexS_l2 n a0 p1_0 p1_1 = some r → posF Try.prog Try.f355 [1, 1, 0, 1, 0] (.ow (some 6) (List.map ShardRedex.ds r)) ⟨[(0, .ro (List.map ShardRedex.ds a0)), (3, .own 1000001000), (4, .int .i64 p1_1)], [(1000001000, some ⟨List.map ShardRedex.ds p1_0, some 6, 0⟩)], []⟩) := by
  induction n with
  | zero => exact ((fun _ _ _ _ h => by rw [l_toShardRedexS_l2] at h; cases h))
  | succ n ih =>
    have ih0 := ih
    · intro a0 p1_0 p1_1 r h
      rw [l_toShardRedexS_l2] at h
      refine posF_of rfl rfl ?_
      try simp only [go_sem]
      refine loop_i ?_
      try simp only [go_sem]
      refine cond_i (fun hb1 => ?_) (fun hb1 => ?_)
      · replace h := ifT (c := (decide (p1_1 < ((List.length a0 : Nat) : Int)))) hb1 h
        try simp only [go_sem]
        refine seq_go ?_
        try simp only [go_sem]
        replace h := bindE h
        obtain ⟨v6004, hv6004, h⟩ := h
        refine idx_m hv6004 (ShardRedex.ds_len _) ?_
        try simp only [go_sem]
        replace h := bindE h
        obtain ⟨v6006, hv6006, h⟩ := h
        refine call_i (l_toShardRedex_ok _ _ hv6006) ?_
        try simp only [go_sem]
        replace h := bindE h
        obtain ⟨v6007, hv6007, h⟩ := h
        refine idx_m hv6007 (ShardRedex.ds_len _) ?_
        try simp only [go_sem]
        replace h := bindE h
        obtain ⟨v6008_12, hv6008_12, h⟩ := h
        refine opt_i (row_m hv6007) ?_
        try simp only [go_sem]
        refine row_i (List.map ShardRedex.ds v6008_12) (by rw [← set1_some hv6008_12]; simp only [List.map_set, go_sem, ShardRedex.ds_eq]) ?_
        try simp only [go_sem]
        refine seq_go ?_
        try simp only [go_sem]
        have hj := posF_to rfl rfl (ih0 a0 v6008_12 (IntKind.i64.wrap (p1_1 + 1)) _ h)
        refine lp_to hj (.one ⟨_, .done _, [(1000001000, 1000001000)], [], ?_⟩)
        clear hj
        try simp only [go_sem]
      · replace h := ifF (c := (decide (p1_1 < ((List.length a0 : Nat) : Int)))) hb1 h
        try simp only [go_sem]
        refine seq_go ?_
        try simp only [go_sem]
        replace h := Option.some.inj h
        obtain rfl := h
        simp only [go_sem]
theorem l_toShardRedexS_l2_ok (n : Nat) : (∀ (a0 : List ShardRedex) (p1_0 : List ShardRedex) (p1_1 : Int) (r : (List ShardRedex)), l_toShardRedexS_l2 n a0 p1_0 p1_1 = some r → posF Try.prog Try.f355 [1, 1, 0, 1, 0] (.ow (some 6) (List.map ShardRedex.ds r)) ⟨[(0, .ro (List.map ShardRedex.ds a0)), (3, .own 1000001000), (4, .int .i64 p1_1)], [(1000001000, some ⟨List.map ShardRedex.ds p1_0, some 6, 0⟩)], []⟩) := (l_toShardRedexS_l2_all n)

theorem l_toShardRedexS_ok (a0 : List ShardRedex) (r : (List ShardRedex)) (h : l_toShardRedexS a0 = some r) : AC Try.prog 355 [.ro (List.map ShardRedex.ds a0)] (.ow (some 6) (List.map ShardRedex.ds r)) := by
  unfold l_toShardRedexS at h
  refine ac_fn mixed Try.func355 rfl rfl rfl (by kernel_rfl) (by kernel_rfl) ?_
  try simp only [go_sem]
  replace h := bindE h
  obtain ⟨v2002, hv2002, h⟩ := h
  have hq_ := rep_some hv2002
  obtain ⟨hv2002a, hv2002b, hv2002c⟩ := hq_
  refine and_i (by refine ⟨?_, ?_, ?_⟩ <;> omega) ?_
  try simp only [go_sem]
  refine row_i (List.map ShardRedex.ds v2002) (by rw [← hv2002c]; simp only [List.map_replicate, go_sem, ShardRedex.ds_eq]) ?_
  try simp only [go_sem]
  have hj := posF_to rfl rfl (l_toShardRedexS_l2_ok fuel a0 v2002 0 _ h)
  refine loop_to hj (.one ⟨_, .done _, [(1000001000, 32032)], [], ?_⟩)
  clear hj
  try simp only [go_sem]
theorem l_toShard_ok (a0 : Shard) (r : Shard) (h : l_toShard a0 = some r) : AC Try.prog 303 [.agg (Shard.avs a0)] (.agg (Shard.rv r)) := by
  unfold l_toShard at h
  refine ac_fn mixed Try.func303 rfl rfl rfl (by kernel_rfl) (by kernel_rfl) ?_
  try simp only [go_sem]
  replace h := bindE h
  obtain ⟨v3002, hv3002, h⟩ := h
  refine call_i (l_toShardCellS_ok _ _ hv3002) ?_
  try simp only [go_sem]
  replace h := bindE h
  obtain ⟨v4002, hv4002, h⟩ := h
  refine call_i (l_toShardVarS_ok _ _ hv4002) ?_
  try simp only [go_sem]
  replace h := bindE h
  obtain ⟨v5002, hv5002, h⟩ := h
  refine call_i (l_toShardRedexS_ok _ _ hv5002) ?_
  try simp only [go_sem]
  replace h := Option.some.inj h
  obtain rfl := h
  simp only [go_sem]
theorem l_toShardS_l2_all (n : Nat) : (∀ (a0 : List Shard) (p1_0 : List Shard) (p1_1 : Int) (r : (List Shard)), l_toShardS_l2 n a0 p1_0 p1_1 = some r → posF Try.prog Try.f251 [1, 1, 0, 1, 0] (.ow (some 3) (List.map Shard.ds r)) ⟨[(0, .ro (List.map Shard.ds a0)), (3, .own 1000001000), (4, .int .i64 p1_1)], [(1000001000, some ⟨List.map Shard.ds p1_0, some 3, 0⟩)], []⟩) := by
  induction n with
  | zero => exact ((fun _ _ _ _ h => by rw [l_toShardS_l2] at h; cases h))
  | succ n ih =>
    have ih0 := ih
    · intro a0 p1_0 p1_1 r h
      rw [l_toShardS_l2] at h
      refine posF_of rfl rfl ?_
      try simp only [go_sem]
      refine loop_i ?_
      try simp only [go_sem]
      refine cond_i (fun hb1 => ?_) (fun hb1 => ?_)
      · replace h := ifT (c := (decide (p1_1 < ((List.length a0 : Nat) : Int)))) hb1 h
        try simp only [go_sem]
        refine seq_go ?_
        try simp only [go_sem]
        replace h := bindE h
        obtain ⟨v6004, hv6004, h⟩ := h
        refine idx_m hv6004 (Shard.ds_len _) ?_
        try simp only [go_sem]
        replace h := bindE h
        obtain ⟨v6006, hv6006, h⟩ := h
        refine call_i (l_toShard_ok _ _ hv6006) ?_
        try simp only [go_sem]
        replace h := bindE h
        obtain ⟨v6007, hv6007, h⟩ := h
        refine idx_m hv6007 (Shard.ds_len _) ?_
        try simp only [go_sem]
        replace h := bindE h
        obtain ⟨v6008_12, hv6008_12, h⟩ := h
        refine opt_i (row_m hv6007) ?_
        try simp only [go_sem]
        refine row_i (List.map Shard.ds v6008_12) (by rw [← set1_some hv6008_12]; simp only [List.map_set, go_sem, Shard.ds_eq]) ?_
        try simp only [go_sem]
        refine seq_go ?_
        try simp only [go_sem]
        have hj := posF_to rfl rfl (ih0 a0 v6008_12 (IntKind.i64.wrap (p1_1 + 1)) _ h)
        refine lp_to hj (.one ⟨_, .done _, [(1000001000, 1000001000)], [], ?_⟩)
        clear hj
        try simp only [go_sem]
      · replace h := ifF (c := (decide (p1_1 < ((List.length a0 : Nat) : Int)))) hb1 h
        try simp only [go_sem]
        refine seq_go ?_
        try simp only [go_sem]
        replace h := Option.some.inj h
        obtain rfl := h
        simp only [go_sem]
theorem l_toShardS_l2_ok (n : Nat) : (∀ (a0 : List Shard) (p1_0 : List Shard) (p1_1 : Int) (r : (List Shard)), l_toShardS_l2 n a0 p1_0 p1_1 = some r → posF Try.prog Try.f251 [1, 1, 0, 1, 0] (.ow (some 3) (List.map Shard.ds r)) ⟨[(0, .ro (List.map Shard.ds a0)), (3, .own 1000001000), (4, .int .i64 p1_1)], [(1000001000, some ⟨List.map Shard.ds p1_0, some 3, 0⟩)], []⟩) := (l_toShardS_l2_all n)

theorem l_toShardS_ok (a0 : List Shard) (r : (List Shard)) (h : l_toShardS a0 = some r) : AC Try.prog 251 [.ro (List.map Shard.ds a0)] (.ow (some 3) (List.map Shard.ds r)) := by
  unfold l_toShardS at h
  refine ac_fn mixed Try.func251 rfl rfl rfl (by kernel_rfl) (by kernel_rfl) ?_
  try simp only [go_sem]
  replace h := bindE h
  obtain ⟨v2002, hv2002, h⟩ := h
  have hq_ := rep_some hv2002
  obtain ⟨hv2002a, hv2002b, hv2002c⟩ := hq_
  refine and_i (by refine ⟨?_, ?_, ?_⟩ <;> omega) ?_
  try simp only [go_sem]
  refine row_i (List.map Shard.ds v2002) (by rw [← hv2002c]; simp only [List.map_replicate, go_sem, Shard.ds_eq]) ?_
  try simp only [go_sem]
  have hj := posF_to rfl rfl (l_toShardS_l2_ok fuel a0 v2002 0 _ h)
  refine loop_to hj (.one ⟨_, .done _, [(1000001000, 32032)], [], ?_⟩)
  clear hj
  try simp only [go_sem]
theorem l_toGrid_ok (a0 : Grid) (r : Grid) (h : l_toGrid a0 = some r) : AC Try.prog 182 [.agg (Grid.avs a0)] (.agg (Grid.rv r)) := by
  unfold l_toGrid at h
  refine ac_fn mixed Try.func182 rfl rfl rfl (by kernel_rfl) (by kernel_rfl) ?_
  try simp only [go_sem]
  replace h := bindE h
  obtain ⟨v3002, hv3002, h⟩ := h
  refine call_i (l_toShardS_ok _ _ hv3002) ?_
  try simp only [go_sem]
  replace h := bindE h
  obtain ⟨v4002, hv4002, h⟩ := h
  refine call_i (l_toAddress_ok _ _ hv4002) ?_
  try simp only [go_sem]
  replace h := Option.some.inj h
  obtain rfl := h
  simp only [go_sem]
theorem l_toParcel_ok (a0 : Parcel) (r : Parcel) (h : l_toParcel a0 = some r) : AC Try.prog 304 [.agg (Parcel.avs a0)] (.agg (Parcel.rv r)) := by
  unfold l_toParcel at h
  refine ac_fn mixed Try.func304 rfl rfl rfl (by kernel_rfl) (by kernel_rfl) ?_
  try simp only [go_sem]
  replace h := bindE h
  obtain ⟨v4002, hv4002, h⟩ := h
  refine call_i (l_toShardCell_ok _ _ hv4002) ?_
  try simp only [go_sem]
  replace h := bindE h
  obtain ⟨v5002, hv5002, h⟩ := h
  refine call_i (l_toAddress_ok _ _ hv5002) ?_
  try simp only [go_sem]
  replace h := bindE h
  obtain ⟨v6002, hv6002, h⟩ := h
  refine call_i (l_toAddress_ok _ _ hv6002) ?_
  try simp only [go_sem]
  replace h := Option.some.inj h
  obtain rfl := h
  simp only [go_sem]
theorem l_toParcelS_l2_all (n : Nat) : (∀ (a0 : List Parcel) (p1_0 : List Parcel) (p1_1 : Int) (r : (List Parcel)), l_toParcelS_l2 n a0 p1_0 p1_1 = some r → posF Try.prog Try.f253 [1, 1, 0, 1, 0] (.ow (some 12) (List.map Parcel.ds r)) ⟨[(0, .ro (List.map Parcel.ds a0)), (3, .own 1000001000), (4, .int .i64 p1_1)], [(1000001000, some ⟨List.map Parcel.ds p1_0, some 12, 0⟩)], []⟩) := by
  induction n with
  | zero => exact ((fun _ _ _ _ h => by rw [l_toParcelS_l2] at h; cases h))
  | succ n ih =>
    have ih0 := ih
    · intro a0 p1_0 p1_1 r h
      rw [l_toParcelS_l2] at h
      refine posF_of rfl rfl ?_
      try simp only [go_sem]
      refine loop_i ?_
      try simp only [go_sem]
      refine cond_i (fun hb1 => ?_) (fun hb1 => ?_)
      · replace h := ifT (c := (decide (p1_1 < ((List.length a0 : Nat) : Int)))) hb1 h
        try simp only [go_sem]
        refine seq_go ?_
        try simp only [go_sem]
        replace h := bindE h
        obtain ⟨v6004, hv6004, h⟩ := h
        refine idx_m hv6004 (Parcel.ds_len _) ?_
        try simp only [go_sem]
        replace h := bindE h
        obtain ⟨v6006, hv6006, h⟩ := h
        refine call_i (l_toParcel_ok _ _ hv6006) ?_
        try simp only [go_sem]
        replace h := bindE h
        obtain ⟨v6007, hv6007, h⟩ := h
        refine idx_m hv6007 (Parcel.ds_len _) ?_
        try simp only [go_sem]
        replace h := bindE h
        obtain ⟨v6008_12, hv6008_12, h⟩ := h
        refine opt_i (row_m hv6007) ?_
        try simp only [go_sem]
        refine row_i (List.map Parcel.ds v6008_12) (by rw [← set1_some hv6008_12]; simp only [List.map_set, go_sem, Parcel.ds_eq]) ?_
        try simp only [go_sem]
        refine seq_go ?_
        try simp only [go_sem]
        have hj := posF_to rfl rfl (ih0 a0 v6008_12 (IntKind.i64.wrap (p1_1 + 1)) _ h)
        refine lp_to hj (.one ⟨_, .done _, [(1000001000, 1000001000)], [], ?_⟩)
        clear hj
        try simp only [go_sem]
      · replace h := ifF (c := (decide (p1_1 < ((List.length a0 : Nat) : Int)))) hb1 h
        try simp only [go_sem]
        refine seq_go ?_
        try simp only [go_sem]
        replace h := Option.some.inj h
        obtain rfl := h
        simp only [go_sem]
theorem l_toParcelS_l2_ok (n : Nat) : (∀ (a0 : List Parcel) (p1_0 : List Parcel) (p1_1 : Int) (r : (List Parcel)), l_toParcelS_l2 n a0 p1_0 p1_1 = some r → posF Try.prog Try.f253 [1, 1, 0, 1, 0] (.ow (some 12) (List.map Parcel.ds r)) ⟨[(0, .ro (List.map Parcel.ds a0)), (3, .own 1000001000), (4, .int .i64 p1_1)], [(1000001000, some ⟨List.map Parcel.ds p1_0, some 12, 0⟩)], []⟩) := (l_toParcelS_l2_all n)

theorem l_toParcelS_ok (a0 : List Parcel) (r : (List Parcel)) (h : l_toParcelS a0 = some r) : AC Try.prog 253 [.ro (List.map Parcel.ds a0)] (.ow (some 12) (List.map Parcel.ds r)) := by
  unfold l_toParcelS at h
  refine ac_fn mixed Try.func253 rfl rfl rfl (by kernel_rfl) (by kernel_rfl) ?_
  try simp only [go_sem]
  replace h := bindE h
  obtain ⟨v2002, hv2002, h⟩ := h
  have hq_ := rep_some hv2002
  obtain ⟨hv2002a, hv2002b, hv2002c⟩ := hq_
  refine and_i (by refine ⟨?_, ?_, ?_⟩ <;> omega) ?_
  try simp only [go_sem]
  refine row_i (List.map Parcel.ds v2002) (by rw [← hv2002c]; simp only [List.map_replicate, go_sem, Parcel.ds_eq]) ?_
  try simp only [go_sem]
  have hj := posF_to rfl rfl (l_toParcelS_l2_ok fuel a0 v2002 0 _ h)
  refine loop_to hj (.one ⟨_, .done _, [(1000001000, 32032)], [], ?_⟩)
  clear hj
  try simp only [go_sem]
theorem l_toParcelSS_l2_all (n : Nat) : (∀ (a0 : List (List Parcel)) (p1_0 : List (List Parcel)) (p1_1 : Int) (r : (List (List Parcel))), l_toParcelSS_l2 n a0 p1_0 p1_1 = some r → posF Try.prog Try.f183 [1, 1, 0, 1, 0] (.ow (some 1) (List.map (slD Parcel.ds) r)) ⟨[(0, .ro (List.map (slD Parcel.ds) a0)), (3, .own 1000001000), (4, .int .i64 p1_1)], [(1000001000, some ⟨List.map (slD Parcel.ds) p1_0, some 1, 0⟩)], []⟩) := by
  induction n with
  | zero => exact ((fun _ _ _ _ h => by rw [l_toParcelSS_l2] at h; cases h))
  | succ n ih =>
    have ih0 := ih
    · intro a0 p1_0 p1_1 r h
      rw [l_toParcelSS_l2] at h
      refine posF_of rfl rfl ?_
      try simp only [go_sem]
      refine loop_i ?_
      try simp only [go_sem]
      refine cond_i (fun hb1 => ?_) (fun hb1 => ?_)
      · replace h := ifT (c := (decide (p1_1 < ((List.length a0 : Nat) : Int)))) hb1 h
        try simp only [go_sem]
        refine seq_go ?_
        try simp only [go_sem]
        replace h := bindE h
        obtain ⟨v6004, hv6004, h⟩ := h
        refine idx_m hv6004 rfl ?_
        try simp only [go_sem]
        replace h := bindE h
        obtain ⟨v6006, hv6006, h⟩ := h
        refine call_i (l_toParcelS_ok _ _ hv6006) ?_
        try simp only [go_sem]
        replace h := bindE h
        obtain ⟨v6007, hv6007, h⟩ := h
        refine idx_m hv6007 rfl ?_
        try simp only [go_sem]
        replace h := bindE h
        obtain ⟨v6008_12, hv6008_12, h⟩ := h
        refine opt_i (row_m hv6007) ?_
        try simp only [go_sem]
        refine row_i (List.map (slD Parcel.ds) v6008_12) (by rw [← set1_some hv6008_12]; simp only [List.map_set, go_sem, slD]) ?_
        try simp only [go_sem]
        refine seq_go ?_
        try simp only [go_sem]
        have hj := posF_to rfl rfl (ih0 a0 v6008_12 (IntKind.i64.wrap (p1_1 + 1)) _ h)
        refine lp_to hj (.one ⟨_, .done _, [(1000001000, 1000001000)], [], ?_⟩)
        clear hj
        try simp only [go_sem]
      · replace h := ifF (c := (decide (p1_1 < ((List.length a0 : Nat) : Int)))) hb1 h
        try simp only [go_sem]
        refine seq_go ?_
        try simp only [go_sem]
        replace h := Option.some.inj h
        obtain rfl := h
        simp only [go_sem]
theorem l_toParcelSS_l2_ok (n : Nat) : (∀ (a0 : List (List Parcel)) (p1_0 : List (List Parcel)) (p1_1 : Int) (r : (List (List Parcel))), l_toParcelSS_l2 n a0 p1_0 p1_1 = some r → posF Try.prog Try.f183 [1, 1, 0, 1, 0] (.ow (some 1) (List.map (slD Parcel.ds) r)) ⟨[(0, .ro (List.map (slD Parcel.ds) a0)), (3, .own 1000001000), (4, .int .i64 p1_1)], [(1000001000, some ⟨List.map (slD Parcel.ds) p1_0, some 1, 0⟩)], []⟩) := (l_toParcelSS_l2_all n)

theorem l_toParcelSS_ok (a0 : List (List Parcel)) (r : (List (List Parcel))) (h : l_toParcelSS a0 = some r) : AC Try.prog 183 [.ro (List.map (slD Parcel.ds) a0)] (.ow (some 1) (List.map (slD Parcel.ds) r)) := by
  unfold l_toParcelSS at h
  refine ac_fn mixed Try.func183 rfl rfl rfl (by kernel_rfl) (by kernel_rfl) ?_
  try simp only [go_sem]
  replace h := bindE h
  obtain ⟨v2002, hv2002, h⟩ := h
  have hq_ := rep_some hv2002
  obtain ⟨hv2002a, hv2002b, hv2002c⟩ := hq_
  refine and_i (by refine ⟨?_, ?_, ?_⟩ <;> omega) ?_
  try simp only [go_sem]
  refine row_i (List.map (slD Parcel.ds) v2002) (by rw [← hv2002c]; simp only [List.map_replicate, go_sem, slD]) ?_
  try simp only [go_sem]
  have hj := posF_to rfl rfl (l_toParcelSS_l2_ok fuel a0 v2002 0 _ h)
  refine loop_to hj (.one ⟨_, .done _, [(1000001000, 32032)], [], ?_⟩)
  clear hj
  try simp only [go_sem]
theorem l_toInt64SS_l2_all (n : Nat) : (∀ (a0 : List (List Int)) (p1_0 : List (List Int)) (p1_1 : Int) (r : (List (List Int))), l_toInt64SS_l2 n a0 p1_0 p1_1 = some r → posF Try.prog Try.f184 [1, 1, 0, 1, 0] (.ow (some 1) (List.map (slD i64D) r)) ⟨[(0, .ro (List.map (slD i64D) a0)), (3, .own 1000001000), (4, .int .i64 p1_1)], [(1000001000, some ⟨List.map (slD i64D) p1_0, some 1, 0⟩)], []⟩) := by
  induction n with
  | zero => exact ((fun _ _ _ _ h => by rw [l_toInt64SS_l2] at h; cases h))
  | succ n ih =>
    have ih0 := ih
    · intro a0 p1_0 p1_1 r h
      rw [l_toInt64SS_l2] at h
      refine posF_of rfl rfl ?_
      try simp only [go_sem]
      refine loop_i ?_
      try simp only [go_sem]
      refine cond_i (fun hb1 => ?_) (fun hb1 => ?_)
      · replace h := ifT (c := (decide (p1_1 < ((List.length a0 : Nat) : Int)))) hb1 h
        try simp only [go_sem]
        refine seq_go ?_
        try simp only [go_sem]
        replace h := bindE h
        obtain ⟨v6004, hv6004, h⟩ := h
        refine idx_m hv6004 rfl ?_
        try simp only [go_sem]
        replace h := bindE h
        obtain ⟨v6006, hv6006, h⟩ := h
        refine call_i (l_toInt64S_ok _ _ hv6006) ?_
        try simp only [go_sem]
        replace h := bindE h
        obtain ⟨v6007, hv6007, h⟩ := h
        refine idx_m hv6007 rfl ?_
        try simp only [go_sem]
        replace h := bindE h
        obtain ⟨v6008_12, hv6008_12, h⟩ := h
        refine opt_i (row_m hv6007) ?_
        try simp only [go_sem]
        refine row_i (List.map (slD i64D) v6008_12) (by rw [← set1_some hv6008_12]; simp only [List.map_set, go_sem, slD]) ?_
        try simp only [go_sem]
        refine seq_go ?_
        try simp only [go_sem]
        have hj := posF_to rfl rfl (ih0 a0 v6008_12 (IntKind.i64.wrap (p1_1 + 1)) _ h)
        refine lp_to hj (.one ⟨_, .done _, [(1000001000, 1000001000)], [], ?_⟩)
        clear hj
        try simp only [go_sem]
      · replace h := ifF (c := (decide (p1_1 < ((List.length a0 : Nat) : Int)))) hb1 h
        try simp only [go_sem]
        refine seq_go ?_
        try simp only [go_sem]
        replace h := Option.some.inj h
        obtain rfl := h
        simp only [go_sem]
theorem l_toInt64SS_l2_ok (n : Nat) : (∀ (a0 : List (List Int)) (p1_0 : List (List Int)) (p1_1 : Int) (r : (List (List Int))), l_toInt64SS_l2 n a0 p1_0 p1_1 = some r → posF Try.prog Try.f184 [1, 1, 0, 1, 0] (.ow (some 1) (List.map (slD i64D) r)) ⟨[(0, .ro (List.map (slD i64D) a0)), (3, .own 1000001000), (4, .int .i64 p1_1)], [(1000001000, some ⟨List.map (slD i64D) p1_0, some 1, 0⟩)], []⟩) := (l_toInt64SS_l2_all n)

theorem l_toInt64SS_ok (a0 : List (List Int)) (r : (List (List Int))) (h : l_toInt64SS a0 = some r) : AC Try.prog 184 [.ro (List.map (slD i64D) a0)] (.ow (some 1) (List.map (slD i64D) r)) := by
  unfold l_toInt64SS at h
  refine ac_fn mixed Try.func184 rfl rfl rfl (by kernel_rfl) (by kernel_rfl) ?_
  try simp only [go_sem]
  replace h := bindE h
  obtain ⟨v2002, hv2002, h⟩ := h
  have hq_ := rep_some hv2002
  obtain ⟨hv2002a, hv2002b, hv2002c⟩ := hq_
  refine and_i (by refine ⟨?_, ?_, ?_⟩ <;> omega) ?_
  try simp only [go_sem]
  refine row_i (List.map (slD i64D) v2002) (by rw [← hv2002c]; simp only [List.map_replicate, go_sem, slD]) ?_
  try simp only [go_sem]
  have hj := posF_to rfl rfl (l_toInt64SS_l2_ok fuel a0 v2002 0 _ h)
  refine loop_to hj (.one ⟨_, .done _, [(1000001000, 32032)], [], ?_⟩)
  clear hj
  try simp only [go_sem]
theorem l_toCluster_ok (a0 : Cluster) (r : Cluster) (h : l_toCluster a0 = some r) : AC Try.prog 100 [.agg (Cluster.avs a0)] (.agg (Cluster.rv r)) := by
  unfold l_toCluster at h
  refine ac_fn mixed Try.func100 rfl rfl rfl (by kernel_rfl) (by kernel_rfl) ?_
  try simp only [go_sem]
  replace h := bindE h
  obtain ⟨v3002, hv3002, h⟩ := h
  refine call_i (l_toGrid_ok _ _ hv3002) ?_
  try simp only [go_sem]
  replace h := bindE h
  obtain ⟨v4002, hv4002, h⟩ := h
  refine call_i (l_toParcelSS_ok _ _ hv4002) ?_
  try simp only [go_sem]
  replace h := bindE h
  obtain ⟨v5002, hv5002, h⟩ := h
  refine call_i (l_toInt64SS_ok _ _ hv5002) ?_
  try simp only [go_sem]
  replace h := bindE h
  obtain ⟨v6002, hv6002, h⟩ := h
  refine call_i (l_toInt64S_ok _ _ hv6002) ?_
  try simp only [go_sem]
  replace h := bindE h
  obtain ⟨v7002, hv7002, h⟩ := h
  refine call_i (l_toInt64S_ok _ _ hv7002) ?_
  try simp only [go_sem]
  replace h := Option.some.inj h
  obtain rfl := h
  simp only [go_sem]
theorem l_toBoolS_l2_all (n : Nat) : (∀ (a0 : List Bool) (p1_0 : List Bool) (p1_1 : Int) (r : (List Bool)), l_toBoolS_l2 n a0 p1_0 p1_1 = some r → posF Try.prog Try.f250 [1, 1, 0, 1, 0] (.ow (some 1) (List.map boolD r)) ⟨[(0, .ro (List.map boolD a0)), (3, .own 1000001000), (4, .int .i64 p1_1)], [(1000001000, some ⟨List.map boolD p1_0, some 1, 0⟩)], []⟩) := by
  induction n with
  | zero => exact ((fun _ _ _ _ h => by rw [l_toBoolS_l2] at h; cases h))
  | succ n ih =>
    have ih0 := ih
    · intro a0 p1_0 p1_1 r h
      rw [l_toBoolS_l2] at h
      refine posF_of rfl rfl ?_
      try simp only [go_sem]
      refine loop_i ?_
      try simp only [go_sem]
      refine cond_i (fun hb1 => ?_) (fun hb1 => ?_)
      · replace h := ifT (c := (decide (p1_1 < ((List.length a0 : Nat) : Int)))) hb1 h
        try simp only [go_sem]
        refine seq_go ?_
        try simp only [go_sem]
        replace h := bindE h
        obtain ⟨v6004, hv6004, h⟩ := h
        refine idx_m hv6004 rfl ?_
        try simp only [go_sem]
        replace h := bindE h
        obtain ⟨v6006, hv6006, h⟩ := h
        refine idx_m hv6006 rfl ?_
        try simp only [go_sem]
        replace h := bindE h
        obtain ⟨v6007_12, hv6007_12, h⟩ := h
        refine opt_i (row_m hv6006) ?_
        try simp only [go_sem]
        refine row_i (List.map boolD v6007_12) (by rw [← set1_some hv6007_12]; simp only [List.map_set, go_sem, slD]) ?_
        try simp only [go_sem]
        refine seq_go ?_
        try simp only [go_sem]
        have hj := posF_to rfl rfl (ih0 a0 v6007_12 (IntKind.i64.wrap (p1_1 + 1)) _ h)
        refine lp_to hj (.one ⟨_, .done _, [(1000001000, 1000001000)], [], ?_⟩)
        clear hj
        try simp only [go_sem]
      · replace h := ifF (c := (decide (p1_1 < ((List.length a0 : Nat) : Int)))) hb1 h
        try simp only [go_sem]
        refine seq_go ?_
        try simp only [go_sem]
        replace h := Option.some.inj h
        obtain rfl := h
        simp only [go_sem]
theorem l_toBoolS_l2_ok (n : Nat) : (∀ (a0 : List Bool) (p1_0 : List Bool) (p1_1 : Int) (r : (List Bool)), l_toBoolS_l2 n a0 p1_0 p1_1 = some r → posF Try.prog Try.f250 [1, 1, 0, 1, 0] (.ow (some 1) (List.map boolD r)) ⟨[(0, .ro (List.map boolD a0)), (3, .own 1000001000), (4, .int .i64 p1_1)], [(1000001000, some ⟨List.map boolD p1_0, some 1, 0⟩)], []⟩) := (l_toBoolS_l2_all n)

theorem l_toBoolS_ok (a0 : List Bool) (r : (List Bool)) (h : l_toBoolS a0 = some r) : AC Try.prog 250 [.ro (List.map boolD a0)] (.ow (some 1) (List.map boolD r)) := by
  unfold l_toBoolS at h
  refine ac_fn mixed Try.func250 rfl rfl rfl (by kernel_rfl) (by kernel_rfl) ?_
  try simp only [go_sem]
  replace h := bindE h
  obtain ⟨v2002, hv2002, h⟩ := h
  have hq_ := rep_some hv2002
  obtain ⟨hv2002a, hv2002b, hv2002c⟩ := hq_
  refine and_i (by refine ⟨?_, ?_, ?_⟩ <;> omega) ?_
  try simp only [go_sem]
  refine row_i (List.map boolD v2002) (by rw [← hv2002c]; simp only [List.map_replicate, go_sem, slD]) ?_
  try simp only [go_sem]
  have hj := posF_to rfl rfl (l_toBoolS_l2_ok fuel a0 v2002 0 _ h)
  refine loop_to hj (.one ⟨_, .done _, [(1000001000, 32032)], [], ?_⟩)
  clear hj
  try simp only [go_sem]
theorem l_toShot_ok (a0 : Shot) (r : Shot) (h : l_toShot a0 = some r) : AC Try.prog 181 [.agg (Shot.avs a0)] (.agg (Shot.rv r)) := by
  unfold l_toShot at h
  refine ac_fn mixed Try.func181 rfl rfl rfl (by kernel_rfl) (by kernel_rfl) ?_
  try simp only [go_sem]
  replace h := bindE h
  obtain ⟨v3002, hv3002, h⟩ := h
  refine call_i (l_toBoolS_ok _ _ hv3002) ?_
  try simp only [go_sem]
  replace h := bindE h
  obtain ⟨v4002, hv4002, h⟩ := h
  refine call_i (l_toShardS_ok _ _ hv4002) ?_
  try simp only [go_sem]
  replace h := bindE h
  obtain ⟨v5002, hv5002, h⟩ := h
  refine call_i (l_toInt64SS_ok _ _ hv5002) ?_
  try simp only [go_sem]
  replace h := bindE h
  obtain ⟨v6002, hv6002, h⟩ := h
  refine call_i (l_toBoolS_ok _ _ hv6002) ?_
  try simp only [go_sem]
  replace h := bindE h
  obtain ⟨v7002, hv7002, h⟩ := h
  refine call_i (l_toParcelSS_ok _ _ hv7002) ?_
  try simp only [go_sem]
  replace h := Option.some.inj h
  obtain rfl := h
  simp only [go_sem]
theorem l_toWatched_ok (a0 : Watched) (r : Watched) (h : l_toWatched a0 = some r) : AC Try.prog 99 [.agg (Watched.avs a0)] (.agg (Watched.rv r)) := by
  unfold l_toWatched at h
  refine ac_fn mixed Try.func99 rfl rfl rfl (by kernel_rfl) (by kernel_rfl) ?_
  try simp only [go_sem]
  replace h := bindE h
  obtain ⟨v3002, hv3002, h⟩ := h
  refine call_i (l_toCluster_ok _ _ hv3002) ?_
  try simp only [go_sem]
  replace h := bindE h
  obtain ⟨v4002, hv4002, h⟩ := h
  refine call_i (l_toShot_ok _ _ hv4002) ?_
  try simp only [go_sem]
  replace h := Option.some.inj h
  obtain rfl := h
  simp only [go_sem]
theorem l_toService_ok (a0 : Service) (r : Service) (h : l_toService a0 = some r) : AC Try.prog 38 [.agg (Service.avs a0)] (.agg (Service.rv r)) := by
  unfold l_toService at h
  refine ac_fn mixed Try.func38 rfl rfl rfl (by kernel_rfl) (by kernel_rfl) ?_
  try simp only [go_sem]
  replace h := bindE h
  obtain ⟨v3002, hv3002, h⟩ := h
  refine call_i (l_toWatched_ok _ _ hv3002) ?_
  try simp only [go_sem]
  replace h := bindE h
  obtain ⟨v4002, hv4002, h⟩ := h
  refine call_i (l_toCluster_ok _ _ hv4002) ?_
  try simp only [go_sem]
  replace h := Option.some.inj h
  obtain rfl := h
  simp only [go_sem]
end Go.Proofs.Ytffokcfdkkikmaa.Ab
