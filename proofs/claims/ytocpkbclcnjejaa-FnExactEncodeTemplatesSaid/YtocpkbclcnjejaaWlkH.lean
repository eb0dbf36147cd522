/-
  The functions do what their models say. Printed by wip/ab/gen.py.
-/
import Derived.Test.YtocpkbclcnjejaaModH
import Derived.Test.YtocpkbclcnjejaaTi2
import Derived.Test.YtocpkbclcnjejaaWlkB
namespace Go.Proofs.Ytocpkbclcnjejaa.Ab
set_option linter.unusedVariables false
set_option linter.unusedSimpArgs false
set_option maxRecDepth 20000
set_option maxHeartbeats 4000000
open Go.RowKit

theorem l_szNetS_l1_all (n : Nat) : (∀ (a0 : List Net) (p0_0 : Int) (p0_1 : Int) (r : Int), l_szNetS_l1 n a0 p0_0 p0_1 = some r → posF Try.prog Try.f17 [1, 1, 1, 0, 1, 0] (.int .i64 r) ⟨[(0, .ro (List.map Net.ds a0)), (1, .int .i64 p0_0), (5, .int .i64 p0_1)], [], []⟩) := by
  induction n with
  | zero => exact ((fun _ _ _ _ h => by rw [l_szNetS_l1] at h; cases h))
  | succ n ih =>
    have ih0 := ih
    · intro a0 p0_0 p0_1 r h
      rw [l_szNetS_l1] at h
      refine posF_of rfl rfl ?_
      try simp only [go_sem]
      refine loop_i ?_
      try simp only [go_sem]
      refine cond_i (fun hb2 => ?_) (fun hb2 => ?_)
      · replace h := ifT (c := (decide (p0_1 < ((List.length a0 : Nat) : Int)))) hb2 h
        try simp only [go_sem]
        refine seq_go ?_
        try simp only [go_sem]
        replace h := bindE h
        obtain ⟨v8002, hv8002, h⟩ := h
        refine idx_m hv8002 (Net.ds_len _) ?_
        try simp only [go_sem]
        replace h := bindE h
        obtain ⟨v8005, hv8005, h⟩ := h
        refine call_i (l_szNet_ok _ _ _ hv8005) ?_
        try simp only [go_sem]
        refine cond_i (fun hb3 => ?_) (fun hb3 => ?_)
        · replace h := ifT (c := (decide (v8005 < 0))) hb3 h
          try simp only [go_sem]
          replace h := Option.some.inj h
          obtain rfl := h
          simp only [go_sem]
        · replace h := ifF (c := (decide (v8005 < 0))) hb3 h
          try simp only [go_sem]
          refine seq_go ?_
          try simp only [go_sem]
          have hj := posF_to rfl rfl (ih0 a0 v8005 (IntKind.i64.wrap (p0_1 + 1)) _ h)
          refine lp_to hj (.one ⟨_, .done _, [], [], ?_⟩)
          clear hj
          try simp only [go_sem]
      · replace h := ifF (c := (decide (p0_1 < ((List.length a0 : Nat) : Int)))) hb2 h
        try simp only [go_sem]
        refine seq_go ?_
        try simp only [go_sem]
        replace h := Option.some.inj h
        obtain rfl := h
        simp only [go_sem]
theorem l_szNetS_l1_ok (n : Nat) : (∀ (a0 : List Net) (p0_0 : Int) (p0_1 : Int) (r : Int), l_szNetS_l1 n a0 p0_0 p0_1 = some r → posF Try.prog Try.f17 [1, 1, 1, 0, 1, 0] (.int .i64 r) ⟨[(0, .ro (List.map Net.ds a0)), (1, .int .i64 p0_0), (5, .int .i64 p0_1)], [], []⟩) := (l_szNetS_l1_all n)

theorem l_szNetS_ok (a0 : List Net) (a1 : Int) (r : Int) (h : l_szNetS a0 a1 = some r) : AC Try.prog 17 [.ro (List.map Net.ds a0), .int .i64 a1] (.int .i64 r) := by
  unfold l_szNetS at h
  refine ac_fn mixed Try.func17 rfl rfl rfl (by kernel_rfl) (by kernel_rfl) ?_
  try simp only [go_sem]
  refine cond_i (fun hb1 => ?_) (fun hb1 => ?_)
  · replace h := ifT (c := (decide ((IntKind.i64.wrap (a1 - ((List.length a0 : Nat) : Int))) < 0))) hb1 h
    try simp only [go_sem]
    replace h := Option.some.inj h
    obtain rfl := h
    simp only [go_sem]
  · replace h := ifF (c := (decide ((IntKind.i64.wrap (a1 - ((List.length a0 : Nat) : Int))) < 0))) hb1 h
    try simp only [go_sem]
    refine seq_go ?_
    try simp only [go_sem]
    have hj := posF_to rfl rfl (l_szNetS_l1_ok fuel a0 (IntKind.i64.wrap (a1 - ((List.length a0 : Nat) : Int))) 0 _ h)
    refine loop_to hj (.one ⟨_, .done _, [], [], ?_⟩)
    clear hj
    try simp only [go_sem]
theorem s_l13Book_l1_all (n : Nat) : (∀ (a0 : List Net) (p0_0 : Int) (r : Bool), s_l13Book_l1 n a0 p0_0 = some r → posF Try.prog Try.f53 [1, 1, 0, 1, 0] (.bool r) ⟨[(0, .ro (List.map Net.ds a0)), (3, .int .i64 p0_0)], [], []⟩) := by
  induction n with
  | zero => exact ((fun _ _ _ h => by rw [s_l13Book_l1] at h; cases h))
  | succ n ih =>
    have ih0 := ih
    · intro a0 p0_0 r h
      rw [s_l13Book_l1] at h
      refine posF_of rfl rfl ?_
      try simp only [go_sem]
      refine loop_i ?_
      try simp only [go_sem]
      refine cond_i (fun hb2 => ?_) (fun hb2 => ?_)
      · replace h := ifT (c := (decide (p0_0 < ((List.length a0 : Nat) : Int)))) hb2 h
        try simp only [go_sem]
        refine seq_go ?_
        try simp only [go_sem]
        replace h := bindE h
        obtain ⟨v7002, hv7002, h⟩ := h
        refine idx_m hv7002 (Net.ds_len _) ?_
        try simp only [go_sem]
        replace h := bindE h
        obtain ⟨v7003, hv7003, h⟩ := h
        refine call_i (s_l11Ok_ok _ _ hv7003) ?_
        try simp only [go_sem]
        refine cond_i (fun hb3 => ?_) (fun hb3 => ?_)
        · replace h := ifT (c := (!v7003)) hb3 h
          try simp only [go_sem]
          replace h := Option.some.inj h
          obtain rfl := h
          simp only [go_sem]
        · replace h := ifF (c := (!v7003)) hb3 h
          try simp only [go_sem]
          refine seq_go ?_
          try simp only [go_sem]
          have hj := posF_to rfl rfl (ih0 a0 (IntKind.i64.wrap (p0_0 + 1)) _ h)
          refine lp_to hj (.one ⟨_, .done _, [], [], ?_⟩)
          clear hj
          try simp only [go_sem]
      · replace h := ifF (c := (decide (p0_0 < ((List.length a0 : Nat) : Int)))) hb2 h
        try simp only [go_sem]
        refine seq_go ?_
        try simp only [go_sem]
        replace h := Option.some.inj h
        obtain rfl := h
        simp only [go_sem]
theorem s_l13Book_l1_ok (n : Nat) : (∀ (a0 : List Net) (p0_0 : Int) (r : Bool), s_l13Book_l1 n a0 p0_0 = some r → posF Try.prog Try.f53 [1, 1, 0, 1, 0] (.bool r) ⟨[(0, .ro (List.map Net.ds a0)), (3, .int .i64 p0_0)], [], []⟩) := (s_l13Book_l1_all n)

theorem s_l13Book_ok (a0 : List Net) (r : Bool) (h : s_l13Book a0 = some r) : AC Try.prog 53 [.ro (List.map Net.ds a0)] (.bool r) := by
  unfold s_l13Book at h
  refine ac_fn mixed Try.func53 rfl rfl rfl (by kernel_rfl) (by kernel_rfl) ?_
  try simp only [go_sem]
  refine cond_i (fun hb1 => ?_) (fun hb1 => ?_)
  · replace h := ifT (c := (decide (24 < ((List.length a0 : Nat) : Int)))) hb1 h
    try simp only [go_sem]
    replace h := Option.some.inj h
    obtain rfl := h
    simp only [go_sem]
  · replace h := ifF (c := (decide (24 < ((List.length a0 : Nat) : Int)))) hb1 h
    try simp only [go_sem]
    refine seq_go ?_
    try simp only [go_sem]
    have hj := posF_to rfl rfl (s_l13Book_l1_ok fuel a0 0 _ h)
    refine loop_to hj (.one ⟨_, .done _, [], [], ?_⟩)
    clear hj
    try simp only [go_sem]
theorem s_EncodeTemplates_l2_all (n : Nat) : (∀ (a0 : List Net) (p1_0 : List Int) (p1_1 : Int) (r : (List Int) × Int), s_EncodeTemplates_l2 n a0 p1_0 p1_1 = some r → posF Try.prog Try.f18 [1, 1, 1, 0, 1, 0] (.tup [.ow (some 1) (List.map u8D r.1), .int .i64 r.2]) ⟨[(0, .ro (List.map Net.ds a0)), (4, .own 1000001000), (5, .int .i64 p1_1)], [(1000001000, some ⟨List.map u8D p1_0, some 1, 0⟩)], []⟩) := by
  induction n with
  | zero => exact ((fun _ _ _ _ h => by rw [s_EncodeTemplates_l2] at h; cases h))
  | succ n ih =>
    have ih0 := ih
    · intro a0 p1_0 p1_1 r h
      rw [s_EncodeTemplates_l2] at h
      refine posF_of rfl rfl ?_
      try simp only [go_sem]
      refine loop_i ?_
      try simp only [go_sem]
      refine cond_i (fun hb2 => ?_) (fun hb2 => ?_)
      · replace h := ifT (c := (decide (p1_1 < ((List.length a0 : Nat) : Int)))) hb2 h
        try simp only [go_sem]
        refine seq_go ?_
        try simp only [go_sem]
        replace h := bindE h
        obtain ⟨v8003, hv8003, h⟩ := h
        refine idx_m hv8003 (Net.ds_len _) ?_
        try simp only [go_sem]
        replace h := bindE h
        obtain ⟨v8004, hv8004, h⟩ := h
        refine call_g ⟨[], [(1001, 1000001000)], [], [(1501, 128064)], [], true⟩ (by kernel_rfl) (s_l33PutNet_ok _ _ _ hv8004) (by kernel_rfl) ?_
        try simp only [go_sem]
        refine seq_go ?_
        try simp only [go_sem]
        have hj := posF_to rfl rfl (ih0 a0 v8004 (IntKind.i64.wrap (p1_1 + 1)) _ h)
        refine lp_to hj (.one ⟨_, .done _, [(1000001000, 128064)], [], ?_⟩)
        clear hj
        try simp only [go_sem]
      · replace h := ifF (c := (decide (p1_1 < ((List.length a0 : Nat) : Int)))) hb2 h
        try simp only [go_sem]
        refine seq_go ?_
        try simp only [go_sem]
        replace h := bindE h
        obtain ⟨v9001, hv9001, h⟩ := h
        refine call_i (s_l33Close_ok _ _ _ hv9001) ?_
        try simp only [go_sem]
        replace h := Option.some.inj h
        obtain rfl := h
        simp only [go_sem]
theorem s_EncodeTemplates_l2_ok (n : Nat) : (∀ (a0 : List Net) (p1_0 : List Int) (p1_1 : Int) (r : (List Int) × Int), s_EncodeTemplates_l2 n a0 p1_0 p1_1 = some r → posF Try.prog Try.f18 [1, 1, 1, 0, 1, 0] (.tup [.ow (some 1) (List.map u8D r.1), .int .i64 r.2]) ⟨[(0, .ro (List.map Net.ds a0)), (4, .own 1000001000), (5, .int .i64 p1_1)], [(1000001000, some ⟨List.map u8D p1_0, some 1, 0⟩)], []⟩) := (s_EncodeTemplates_l2_all n)

theorem s_EncodeTemplates_ok (a0 : List Net) (r : (List Int) × Int) (h : s_EncodeTemplates a0 = some r) : AC Try.prog 18 [.ro (List.map Net.ds a0)] (.tup [.ow (some 1) (List.map u8D r.1), .int .i64 r.2]) := by
  unfold s_EncodeTemplates at h
  refine ac_fn mixed Try.func18 rfl rfl rfl (by kernel_rfl) (by kernel_rfl) ?_
  try simp only [go_sem]
  replace h := bindE h
  obtain ⟨v2001, hv2001, h⟩ := h
  refine call_i (s_l13Book_ok _ _ hv2001) ?_
  try simp only [go_sem]
  refine cond_i (fun hb1 => ?_) (fun hb1 => ?_)
  · replace h := ifT (c := (!v2001)) hb1 h
    try simp only [go_sem]
    replace h := Option.some.inj h
    obtain rfl := h
    simp only [go_sem]
  · replace h := ifF (c := (!v2001)) hb1 h
    try simp only [go_sem]
    refine seq_go ?_
    try simp only [go_sem]
    replace h := bindE h
    obtain ⟨v4003, hv4003, h⟩ := h
    refine call_g ⟨[(3000064048, .bsl 4000 0 1, some 1)], [(1001, 3000064048)], [], [(1501, 64048)], [], true⟩ (by kernel_rfl) (s_l33Number_ok _ _ _ hv4003) (by kernel_rfl) ?_
    try simp only [go_sem]
    have hj := posF_to rfl rfl (s_EncodeTemplates_l2_ok fuel a0 v4003 0 _ h)
    refine loop_to hj (.one ⟨_, .done _, [(1000001000, 64048)], [], ?_⟩)
    clear hj
    try simp only [go_sem]
theorem l_toNetS_l2_all (n : Nat) : (∀ (a0 : List Net) (p1_0 : List Net) (p1_1 : Int) (r : (List Net)), l_toNetS_l2 n a0 p1_0 p1_1 = some r → posF Try.prog Try.f19 [1, 1, 0, 1, 0] (.ow (some 1) (List.map Net.ds r)) ⟨[(0, .ro (List.map Net.ds a0)), (3, .own 1000001000), (4, .int .i64 p1_1)], [(1000001000, some ⟨List.map Net.ds p1_0, some 1, 0⟩)], []⟩) := by
  induction n with
  | zero => exact ((fun _ _ _ _ h => by rw [l_toNetS_l2] at h; cases h))
  | succ n ih =>
    have ih0 := ih
    · intro a0 p1_0 p1_1 r h
      rw [l_toNetS_l2] at h
      refine posF_of rfl rfl ?_
      try simp only [go_sem]
      refine loop_i ?_
      try simp only [go_sem]
      refine cond_i (fun hb1 => ?_) (fun hb1 => ?_)
      · replace h := ifT (c := (decide (p1_1 < ((List.length a0 : Nat) : Int)))) hb1 h
        try simp only [go_sem]
        refine seq_go ?_
        try simp only [go_sem]
        replace h := bindE h
        obtain ⟨v6004, hv6004, h⟩ := h
        refine idx_m hv6004 (Net.ds_len _) ?_
        try simp only [go_sem]
        replace h := bindE h
        obtain ⟨v6006, hv6006, h⟩ := h
        refine call_i (l_toNet_ok _ _ hv6006) ?_
        try simp only [go_sem]
        replace h := bindE h
        obtain ⟨v6007, hv6007, h⟩ := h
        refine idx_m hv6007 (Net.ds_len _) ?_
        try simp only [go_sem]
        replace h := bindE h
        obtain ⟨v6008_12, hv6008_12, h⟩ := h
        refine opt_i (row_m hv6007) ?_
        try simp only [go_sem]
        refine row_i (List.map Net.ds v6008_12) (by rw [← set1_some hv6008_12]; simp only [List.map_set, go_sem, Net.ds_eq]) ?_
        try simp only [go_sem]
        refine seq_go ?_
        try simp only [go_sem]
        have hj := posF_to rfl rfl (ih0 a0 v6008_12 (IntKind.i64.wrap (p1_1 + 1)) _ h)
        refine lp_to hj (.one ⟨_, .done _, [(1000001000, 1000001000)], [], ?_⟩)
        clear hj
        try simp only [go_sem]
      · replace h := ifF (c := (decide (p1_1 < ((List.length a0 : Nat) : Int)))) hb1 h
        try simp only [go_sem]
        refine seq_go ?_
        try simp only [go_sem]
        replace h := Option.some.inj h
        obtain rfl := h
        simp only [go_sem]
theorem l_toNetS_l2_ok (n : Nat) : (∀ (a0 : List Net) (p1_0 : List Net) (p1_1 : Int) (r : (List Net)), l_toNetS_l2 n a0 p1_0 p1_1 = some r → posF Try.prog Try.f19 [1, 1, 0, 1, 0] (.ow (some 1) (List.map Net.ds r)) ⟨[(0, .ro (List.map Net.ds a0)), (3, .own 1000001000), (4, .int .i64 p1_1)], [(1000001000, some ⟨List.map Net.ds p1_0, some 1, 0⟩)], []⟩) := (l_toNetS_l2_all n)

theorem l_toNetS_ok (a0 : List Net) (r : (List Net)) (h : l_toNetS a0 = some r) : AC Try.prog 19 [.ro (List.map Net.ds a0)] (.ow (some 1) (List.map Net.ds r)) := by
  unfold l_toNetS at h
  refine ac_fn mixed Try.func19 rfl rfl rfl (by kernel_rfl) (by kernel_rfl) ?_
  try simp only [go_sem]
  replace h := bindE h
  obtain ⟨v2002, hv2002, h⟩ := h
  have hq_ := rep_some hv2002
  obtain ⟨hv2002a, hv2002b, hv2002c⟩ := hq_
  refine and_i (by refine ⟨?_, ?_, ?_⟩ <;> omega) ?_
  try simp only [go_sem]
  refine row_i (List.map Net.ds v2002) (by rw [← hv2002c]; simp only [List.map_replicate, go_sem, Net.ds_eq]) ?_
  try simp only [go_sem]
  have hj := posF_to rfl rfl (l_toNetS_l2_ok fuel a0 v2002 0 _ h)
  refine loop_to hj (.one ⟨_, .done _, [(1000001000, 32032)], [], ?_⟩)
  clear hj
  try simp only [go_sem]
theorem g_IndexFunc_simpl_Net_l1_all (n : Nat) : (∀ (a0 : List Net) (p0_0 : Int) (f1 : (Net → Option Bool)) (g1 : FuncId) (c1 : List AV) (s1 : Still c1) (h1 : ∀ (y0 : Net) (q : Bool), f1 y0 = some q → AC Try.prog g1 (.agg (Net.avs y0) :: c1) (.bool q)) (r : Int), g_IndexFunc_simpl_Net_l1 n a0 p0_0 f1 = some r → posF Try.prog Try.f158 [1, 0, 1, 0] (.int .i64 r) ⟨[(0, .ro (List.map Net.ds a0)), (1, .fn g1 c1), (7, .int .i64 ((List.length a0 : Nat) : Int)), (8, .int .i64 p0_0)], [], []⟩) := by
  induction n with
  | zero => exact ((fun _ _ _ _ _ _ _ _ h => by rw [g_IndexFunc_simpl_Net_l1] at h; cases h))
  | succ n ih =>
    have ih0 := ih
    · intro a0 p0_0 f1 g1 c1 s1 h1 r h
      rw [g_IndexFunc_simpl_Net_l1] at h
      refine posF_of rfl rfl ?_
      try simp only [go_sem, s1.k, s1.r, s1.c, s1.p]
      refine loop_i ?_
      try simp only [go_sem, s1.k, s1.r, s1.c, s1.p]
      refine cond_i (fun hb1 => ?_) (fun hb1 => ?_)
      · replace h := ifT (c := (decide (p0_0 < ((List.length a0 : Nat) : Int)))) hb1 h
        try simp only [go_sem, s1.k, s1.r, s1.c, s1.p]
        refine seq_go ?_
        try simp only [go_sem, s1.k, s1.r, s1.c, s1.p]
        replace h := bindE h
        obtain ⟨v5003, hv5003, h⟩ := h
        refine idx_m hv5003 (Net.ds_len _) ?_
        try simp only [go_sem, s1.k, s1.r, s1.c, s1.p]
        replace h := bindE h
        obtain ⟨v5005, hv5005, h⟩ := h
        refine call_i (h1 _ _ hv5005) ?_
        try simp only [go_sem, s1.k, s1.r, s1.c, s1.p]
        refine cond_i (fun hb2 => ?_) (fun hb2 => ?_)
        · replace h := ifT (c := v5005) hb2 h
          try simp only [go_sem, s1.k, s1.r, s1.c, s1.p]
          replace h := Option.some.inj h
          obtain rfl := h
          simp only [go_sem, s1.k, s1.r, s1.c, s1.p]
        · replace h := ifF (c := v5005) hb2 h
          try simp only [go_sem, s1.k, s1.r, s1.c, s1.p]
          refine seq_go ?_
          try simp only [go_sem, s1.k, s1.r, s1.c, s1.p]
          have hj := posF_to rfl rfl (ih0 a0 (IntKind.i64.wrap (p0_0 + 1)) f1 g1 c1 s1 h1 _ h)
          refine lp_to hj (.one ⟨_, .done _, [], [], ?_⟩)
          clear hj
          try simp only [go_sem, s1.k, s1.r, s1.c, s1.p]
      · replace h := ifF (c := (decide (p0_0 < ((List.length a0 : Nat) : Int)))) hb1 h
        try simp only [go_sem, s1.k, s1.r, s1.c, s1.p]
        refine seq_go ?_
        try simp only [go_sem, s1.k, s1.r, s1.c, s1.p]
        replace h := Option.some.inj h
        obtain rfl := h
        simp only [go_sem, s1.k, s1.r, s1.c, s1.p]
theorem g_IndexFunc_simpl_Net_l1_ok (n : Nat) : (∀ (a0 : List Net) (p0_0 : Int) (f1 : (Net → Option Bool)) (g1 : FuncId) (c1 : List AV) (s1 : Still c1) (h1 : ∀ (y0 : Net) (q : Bool), f1 y0 = some q → AC Try.prog g1 (.agg (Net.avs y0) :: c1) (.bool q)) (r : Int), g_IndexFunc_simpl_Net_l1 n a0 p0_0 f1 = some r → posF Try.prog Try.f158 [1, 0, 1, 0] (.int .i64 r) ⟨[(0, .ro (List.map Net.ds a0)), (1, .fn g1 c1), (7, .int .i64 ((List.length a0 : Nat) : Int)), (8, .int .i64 p0_0)], [], []⟩) := (g_IndexFunc_simpl_Net_l1_all n)

theorem g_IndexFunc_simpl_Net_ok (a0 : List Net) (f1 : (Net → Option Bool)) (g1 : FuncId) (c1 : List AV) (s1 : Still c1) (h1 : ∀ (y0 : Net) (q : Bool), f1 y0 = some q → AC Try.prog g1 (.agg (Net.avs y0) :: c1) (.bool q)) (r : Int) (h : g_IndexFunc_simpl_Net a0 f1 = some r) : AC Try.prog 158 [.ro (List.map Net.ds a0), .fn g1 c1] (.int .i64 r) := by
  unfold g_IndexFunc_simpl_Net at h
  refine ac_fn mixed Try.func158 rfl rfl rfl (by kernel_rfl) (by kernel_rfl) ?_
  try simp only [go_sem, s1.k, s1.r, s1.c, s1.p]
  have hj := posF_to rfl rfl (g_IndexFunc_simpl_Net_l1_ok fuel a0 0 f1 g1 c1 s1 h1 _ h)
  refine loop_to hj (.one ⟨_, .done _, [], [], ?_⟩)
  clear hj
  try simp only [go_sem, s1.k, s1.r, s1.c, s1.p]
theorem g_ContainsFunc_simpl_Net_ok (a0 : List Net) (f1 : (Net → Option Bool)) (g1 : FuncId) (c1 : List AV) (s1 : Still c1) (h1 : ∀ (y0 : Net) (q : Bool), f1 y0 = some q → AC Try.prog g1 (.agg (Net.avs y0) :: c1) (.bool q)) (r : Bool) (h : g_ContainsFunc_simpl_Net a0 f1 = some r) : AC Try.prog 108 [.ro (List.map Net.ds a0), .fn g1 c1] (.bool r) := by
  unfold g_ContainsFunc_simpl_Net at h
  refine ac_fn mixed Try.func108 rfl rfl rfl (by kernel_rfl) (by kernel_rfl) ?_
  try simp only [go_sem, s1.k, s1.r, s1.c, s1.p]
  replace h := bindE h
  obtain ⟨v2002, hv2002, h⟩ := h
  refine call_i (g_IndexFunc_simpl_Net_ok _ _ g1 c1 s1 h1 _ hv2002) ?_
  try simp only [go_sem, s1.k, s1.r, s1.c, s1.p]
  replace h := Option.some.inj h
  obtain rfl := h
  simp only [go_sem, s1.k, s1.r, s1.c, s1.p]
theorem i_ValidTemplates_1_ok (a0 : Net) (r : Bool) (h : i_ValidTemplates_1 a0 = some r) : AC Try.prog 109 [.agg (Net.avs a0)] (.bool r) := by
  unfold i_ValidTemplates_1 at h
  refine ac_fn mixed Try.func109 rfl rfl rfl (by kernel_rfl) (by kernel_rfl) ?_
  try simp only [go_sem]
  replace h := bindE h
  obtain ⟨v2001, hv2001, h⟩ := h
  refine call_i (i_ValidNet_ok _ _ hv2001) ?_
  try simp only [go_sem]
  replace h := Option.some.inj h
  obtain rfl := h
  simp only [go_sem]
theorem i_ValidTemplates_ok (a0 : List Net) (r : Bool) (h : i_ValidTemplates a0 = some r) : AC Try.prog 55 [.ro (List.map Net.ds a0)] (.bool r) := by
  unfold i_ValidTemplates at h
  refine ac_fn mixed Try.func55 rfl rfl rfl (by kernel_rfl) (by kernel_rfl) ?_
  try simp only [go_sem]
  refine cond_i (fun hb1 => ?_) (fun hb1 => ?_)
  · replace h := ifT (c := (decide (((List.length a0 : Nat) : Int) ≤ 24))) hb1 h
    try simp only [go_sem]
    replace h := bindE h
    obtain ⟨v2005, hv2005, h⟩ := h
    refine call_i (g_ContainsFunc_simpl_Net_ok _ _ 109 [] (Still.of rfl) (fun y0 q hq => i_ValidTemplates_1_ok y0  q hq) _ hv2005) ?_
    try simp only [go_sem]
    refine seq_go ?_
    try simp only [go_sem]
    replace h := Option.some.inj h
    obtain rfl := h
    simp only [go_sem]
  · replace h := ifF (c := (decide (((List.length a0 : Nat) : Int) ≤ 24))) hb1 h
    try simp only [go_sem]
    refine seq_go ?_
    try simp only [go_sem]
    replace h := Option.some.inj h
    obtain rfl := h
    simp only [go_sem]
theorem i_EncodeTemplates_l2_all (n : Nat) : (∀ (a0 : List Net) (p1_0 : List Int) (p1_1 : Int) (r : (List Int) × Int), i_EncodeTemplates_l2 n a0 p1_0 p1_1 = some r → posF Try.prog Try.f20 [1, 1, 1, 0, 1, 0] (.tup [.ow (some 1) (List.map u8D r.1), .int .i64 r.2]) ⟨[(4, .own 1000001000), (13, .ro (List.map Net.ds a0)), (14, .int .i64 ((List.length a0 : Nat) : Int)), (15, .int .i64 p1_1)], [(1000001000, some ⟨List.map u8D p1_0, some 1, 0⟩)], []⟩) := by
  induction n with
  | zero => exact ((fun _ _ _ _ h => by rw [i_EncodeTemplates_l2] at h; cases h))
  | succ n ih =>
    have ih0 := ih
    · intro a0 p1_0 p1_1 r h
      rw [i_EncodeTemplates_l2] at h
      refine posF_of rfl rfl ?_
      try simp only [go_sem]
      refine loop_i ?_
      try simp only [go_sem]
      refine cond_i (fun hb2 => ?_) (fun hb2 => ?_)
      · replace h := ifT (c := (decide (p1_1 < ((List.length a0 : Nat) : Int)))) hb2 h
        try simp only [go_sem]
        refine seq_go ?_
        try simp only [go_sem]
        replace h := bindE h
        obtain ⟨v7000, hv7000, h⟩ := h
        refine idx_m hv7000 (Net.ds_len _) ?_
        try simp only [go_sem]
        replace h := bindE h
        obtain ⟨v8002, hv8002, h⟩ := h
        refine call_g ⟨[], [(1001, 1000001000)], [], [(1501, 128032)], [], true⟩ (by kernel_rfl) (i_appendNet_ok _ _ _ hv8002) (by kernel_rfl) ?_
        try simp only [go_sem]
        refine seq_go ?_
        try simp only [go_sem]
        have hj := posF_to rfl rfl (ih0 a0 v8002 (IntKind.i64.wrap (p1_1 + 1)) _ h)
        refine lp_to hj (.one ⟨_, .done _, [(1000001000, 128032)], [], ?_⟩)
        clear hj
        try simp only [go_sem]
      · replace h := ifF (c := (decide (p1_1 < ((List.length a0 : Nat) : Int)))) hb2 h
        try simp only [go_sem]
        refine seq_go ?_
        try simp only [go_sem]
        replace h := bindE h
        obtain ⟨v10001, hv10001, h⟩ := h
        refine call_i (i_framed_ok _ _ _ hv10001) ?_
        try simp only [go_sem]
        replace h := Option.some.inj h
        obtain rfl := h
        simp only [go_sem]
theorem i_EncodeTemplates_l2_ok (n : Nat) : (∀ (a0 : List Net) (p1_0 : List Int) (p1_1 : Int) (r : (List Int) × Int), i_EncodeTemplates_l2 n a0 p1_0 p1_1 = some r → posF Try.prog Try.f20 [1, 1, 1, 0, 1, 0] (.tup [.ow (some 1) (List.map u8D r.1), .int .i64 r.2]) ⟨[(4, .own 1000001000), (13, .ro (List.map Net.ds a0)), (14, .int .i64 ((List.length a0 : Nat) : Int)), (15, .int .i64 p1_1)], [(1000001000, some ⟨List.map u8D p1_0, some 1, 0⟩)], []⟩) := (i_EncodeTemplates_l2_all n)

theorem i_EncodeTemplates_ok (a0 : List Net) (r : (List Int) × Int) (h : i_EncodeTemplates a0 = some r) : AC Try.prog 20 [.ro (List.map Net.ds a0)] (.tup [.ow (some 1) (List.map u8D r.1), .int .i64 r.2]) := by
  unfold i_EncodeTemplates at h
  refine ac_fn mixed Try.func20 rfl rfl rfl (by kernel_rfl) (by kernel_rfl) ?_
  try simp only [go_sem]
  replace h := bindE h
  obtain ⟨v2001, hv2001, h⟩ := h
  refine call_i (i_ValidTemplates_ok _ _ hv2001) ?_
  try simp only [go_sem]
  refine cond_i (fun hb1 => ?_) (fun hb1 => ?_)
  · replace h := ifT (c := (!v2001)) hb1 h
    try simp only [go_sem]
    replace h := Option.some.inj h
    obtain rfl := h
    simp only [go_sem]
  · replace h := ifF (c := (!v2001)) hb1 h
    try simp only [go_sem]
    refine seq_go ?_
    try simp only [go_sem]
    replace h := bindE h
    obtain ⟨v4002, hv4002, h⟩ := h
    refine call_g ⟨[(3000064032, .nils, some 1)], [(1001, 3000064032)], [], [(1501, 64032)], [], true⟩ (by kernel_rfl) (i_appendNumber_ok _ _ _ hv4002) (by kernel_rfl) ?_
    try simp only [go_sem]
    have hj := posF_to rfl rfl (i_EncodeTemplates_l2_ok fuel a0 v4002 0 _ h)
    refine loop_to hj (.one ⟨_, .done _, [(1000001000, 64032)], [], ?_⟩)
    clear hj
    try simp only [go_sem]
theorem l_eqNetS_l1_all (n : Nat) : (∀ (a0 : List Net) (a1 : List Net) (p0_0 : Int) (r : Bool), l_eqNetS_l1 n a0 a1 p0_0 = some r → posF Try.prog Try.f21 [1, 1, 0, 1, 0] (.bool r) ⟨[(0, .ro (List.map Net.ds a0)), (1, .ro (List.map Net.ds a1)), (5, .int .i64 p0_0)], [], []⟩) := by
  induction n with
  | zero => exact ((fun _ _ _ _ h => by rw [l_eqNetS_l1] at h; cases h))
  | succ n ih =>
    have ih0 := ih
    · intro a0 a1 p0_0 r h
      rw [l_eqNetS_l1] at h
      refine posF_of rfl rfl ?_
      try simp only [go_sem]
      refine loop_i ?_
      try simp only [go_sem]
      refine cond_i (fun hb2 => ?_) (fun hb2 => ?_)
      · replace h := ifT (c := (decide (p0_0 < ((List.length a0 : Nat) : Int)))) hb2 h
        try simp only [go_sem]
        refine seq_go ?_
        try simp only [go_sem]
        refine draw_i [] .fin (by kernel_rfl) ?_
        try simp only [go_sem]
        replace h := bindE h
        obtain ⟨v7002, hv7002, h⟩ := h
        refine idx_m hv7002 (Net.ds_len _) ?_
        try simp only [go_sem]
        replace h := bindE h
        obtain ⟨v7006, hv7006, h⟩ := h
        refine idx_m hv7006 (Net.ds_len _) ?_
        try simp only [go_sem]
        replace h := bindE h
        obtain ⟨v7008, hv7008, h⟩ := h
        refine call_i (l_eqNet_ok _ _ _ hv7008) ?_
        try simp only [go_sem]
        refine seq_go ?_
        try simp only [go_sem]
        refine cond_i (fun hb3 => ?_) (fun hb3 => ?_)
        · replace h := ifT (c := (!v7008)) hb3 h
          try simp only [go_sem]
          replace h := Option.some.inj h
          obtain rfl := h
          simp only [go_sem]
        · replace h := ifF (c := (!v7008)) hb3 h
          try simp only [go_sem]
          refine seq_go ?_
          try simp only [go_sem]
          have hj := posF_to rfl rfl (ih0 a0 a1 (IntKind.i64.wrap (p0_0 + 1)) _ h)
          refine lp_to hj (.one ⟨_, .done _, [], [], ?_⟩)
          clear hj
          try simp only [go_sem]
      · replace h := ifF (c := (decide (p0_0 < ((List.length a0 : Nat) : Int)))) hb2 h
        try simp only [go_sem]
        refine seq_go ?_
        try simp only [go_sem]
        replace h := Option.some.inj h
        obtain rfl := h
        simp only [go_sem]
theorem l_eqNetS_l1_ok (n : Nat) : (∀ (a0 : List Net) (a1 : List Net) (p0_0 : Int) (r : Bool), l_eqNetS_l1 n a0 a1 p0_0 = some r → posF Try.prog Try.f21 [1, 1, 0, 1, 0] (.bool r) ⟨[(0, .ro (List.map Net.ds a0)), (1, .ro (List.map Net.ds a1)), (5, .int .i64 p0_0)], [], []⟩) := (l_eqNetS_l1_all n)

theorem l_eqNetS_ok (a0 : List Net) (a1 : List Net) (r : Bool) (h : l_eqNetS a0 a1 = some r) : AC Try.prog 21 [.ro (List.map Net.ds a0), .ro (List.map Net.ds a1)] (.bool r) := by
  unfold l_eqNetS at h
  refine ac_fn mixed Try.func21 rfl rfl rfl (by kernel_rfl) (by kernel_rfl) ?_
  try simp only [go_sem]
  refine cond_i (fun hb1 => ?_) (fun hb1 => ?_)
  · replace h := ifT (c := (!decide (((List.length a0 : Nat) : Int) = ((List.length a1 : Nat) : Int)))) hb1 h
    try simp only [go_sem]
    replace h := Option.some.inj h
    obtain rfl := h
    simp only [go_sem]
  · replace h := ifF (c := (!decide (((List.length a0 : Nat) : Int) = ((List.length a1 : Nat) : Int)))) hb1 h
    try simp only [go_sem]
    refine seq_go ?_
    try simp only [go_sem]
    have hj := posF_to rfl rfl (l_eqNetS_l1_ok fuel a0 a1 0 _ h)
    refine loop_to hj (.one ⟨_, .done _, [], [], ?_⟩)
    clear hj
    try simp only [go_sem]
theorem l_markNetS_l1_all (n : Nat) : (∀ (p0_0 : List Net) (p0_1 : Int) (p0_2 : Int) (z1 : Option Nat) (r : Int × (List Net)), l_markNetS_l1 n p0_0 p0_1 p0_2 = some r → posG Try.prog Try.f22 [1, 0, 1, 0] (.int .i64 r.1) [(1, ⟨List.map Net.ds r.2, z1, 0⟩)] [] ⟨[(0, .own 1), (1, .int .i64 p0_1), (5, .int .i64 p0_2)], [(1, some ⟨List.map Net.ds p0_0, z1, 0⟩)], []⟩) := by
  induction n with
  | zero => exact ((fun _ _ _ _ _ h => by rw [l_markNetS_l1] at h; cases h))
  | succ n ih =>
    have ih0 := ih
    · intro p0_0 p0_1 p0_2 z1 r h
      rw [l_markNetS_l1] at h
      refine posG_of rfl rfl ?_
      try simp only [go_sem]
      refine loop_i ?_
      try simp only [go_sem]
      refine cond_i (fun hb1 => ?_) (fun hb1 => ?_)
      · replace h := ifT (c := (decide (p0_2 < ((List.length p0_0 : Nat) : Int)))) hb1 h
        try simp only [go_sem]
        refine seq_go ?_
        try simp only [go_sem]
        replace h := bindE h
        obtain ⟨v5002, hv5002, h⟩ := h
        refine idx_m hv5002 (Net.ds_len _) ?_
        try simp only [go_sem]
        refine opt_i (row_m hv5002) ?_
        try simp only [go_sem]
        replace h := bindE h
        obtain ⟨v5006, hv5006, h⟩ := h
        replace h := bindE h
        obtain ⟨v5006_8, hv5006_8, h⟩ := h
        refine call_g ⟨[(3000080096, .sub 1 0 [(1, Int.toNat p0_2, 0)], none)], [(1, 3000080096)], [], [], [], true⟩ (by kernel_rfl) (l_markAgentS_ok _ _ none _ hv5006) (by kernel_rfl) ?_
        try simp only [go_sem]
        refine opt_i (getP_1 (r := List.map Agent.ds v5002.agents) (row_m hv5002) (Net.ds_len _) (by simp only [go_sem, Net.ds_eq])) ?_
        try simp only [go_sem]
        refine row_i ((List.map Net.ds p0_0).set (Int.toNat p0_2) [.gone]) ((putR_1 (row_m hv5002) (d' := .sl (List.map Agent.ds v5002.agents)) (by simp only [go_sem, Net.ds_eq])).trans (by simp only [go_sem, Net.ds_eq])) ?_
        try simp only [go_sem]
        refine and_i (getC_1 (set_at (row_m hv5002)) rfl rfl) ?_
        try simp only [go_sem]
        refine row_i (List.map Net.ds v5006_8) (((putR_1 (set_at (row_m hv5002)) (d' := .gone) rfl).trans (List.set_set ..)).trans (by rw [← set1_some hv5006_8]; simp only [List.map_set, go_sem, Net.ds_eq])) ?_
        try simp only [go_sem]
        refine seq_go ?_
        try simp only [go_sem]
        have hj := posG_to rfl rfl (ih0 v5006_8 v5006.1 (IntKind.i64.wrap (p0_2 + 1)) z1 _ h)
        refine lp_to hj (.one ⟨_, .done _, [(1, 1)], [], ?_⟩)
        clear hj
        try simp only [go_sem]
      · replace h := ifF (c := (decide (p0_2 < ((List.length p0_0 : Nat) : Int)))) hb1 h
        try simp only [go_sem]
        refine seq_go ?_
        try simp only [go_sem]
        replace h := Option.some.inj h
        obtain rfl := h
        refine ret_i (.done _) [(1, 1)] [] ?_
        simp only [go_sem]
theorem l_markNetS_l1_ok (n : Nat) : (∀ (p0_0 : List Net) (p0_1 : Int) (p0_2 : Int) (z1 : Option Nat) (r : Int × (List Net)), l_markNetS_l1 n p0_0 p0_1 p0_2 = some r → posG Try.prog Try.f22 [1, 0, 1, 0] (.int .i64 r.1) [(1, ⟨List.map Net.ds r.2, z1, 0⟩)] [] ⟨[(0, .own 1), (1, .int .i64 p0_1), (5, .int .i64 p0_2)], [(1, some ⟨List.map Net.ds p0_0, z1, 0⟩)], []⟩) := (l_markNetS_l1_all n)

theorem l_markNetS_ok (a0 : List Net) (a1 : Int) (z1 : Option Nat) (r : Int × (List Net)) (h : l_markNetS a0 a1 = some r) : AG Try.prog 22 [.own 1, .int .i64 a1] [(1, ⟨List.map Net.ds a0, z1, 0⟩)] [] (.int .i64 r.1) [(1, ⟨List.map Net.ds r.2, z1, 0⟩)] [] := by
  unfold l_markNetS at h
  refine ag_fn mixed Try.func22 rfl rfl rfl (by kernel_rfl) (by kernel_rfl) ?_
  try simp only [go_sem]
  have hj := posG_to rfl rfl (l_markNetS_l1_ok fuel a0 a1 0 z1 _ h)
  refine loop_to hj (.one ⟨_, .done _, [(1, 1)], [], ?_⟩)
  clear hj
  try simp only [go_sem]
theorem l_FnExactEncodeTemplates_j3_ok (v18002 : Int × (List Int)) (p2_0 : Bool) (r : Bool) (h : l_FnExactEncodeTemplates_j3 v18002 p2_0 = some r) : posF Try.prog Try.f4 [1, 1, 1, 1, 1, 1, 1, 1, 1, 1, 1, 1, 1, 1, 1, 1, 1, 1, 1, 0, 1] (.bool r) ⟨[(7, .own 1000002000), (10, .int .i64 v18002.1), (87, .bool p2_0)], [(1000002000, some ⟨List.map u8D v18002.2, some 1, 0⟩)], []⟩ := by
  unfold l_FnExactEncodeTemplates_j3 at h
  refine posF_of rfl rfl ?_
  try simp only [go_sem]
  refine cond_i (fun hb11 => ?_) (fun hb11 => ?_)
  · replace h := ifT (c := p2_0) hb11 h
    try simp only [go_sem]
    replace h := Option.some.inj h
    obtain rfl := h
    simp only [go_sem]
  · replace h := ifF (c := p2_0) hb11 h
    try simp only [go_sem]
    refine seq_go ?_
    try simp only [go_sem]
    replace h := bindE h
    obtain ⟨v29002, hv29002, h⟩ := h
    refine call_i (l_heldByteS_ok _ _ _ hv29002) ?_
    try simp only [go_sem]
    refine cond_i (fun hb12 => ?_) (fun hb12 => ?_)
    · replace h := ifT (c := (decide (v29002 < 0))) hb12 h
      try simp only [go_sem]
      replace h := Option.some.inj h
      obtain rfl := h
      simp only [go_sem]
    · replace h := ifF (c := (decide (v29002 < 0))) hb12 h
      try simp only [go_sem]
      refine seq_go ?_
      try simp only [go_sem]
      refine cond_i (fun hb13 => ?_) (fun hb13 => ?_)
      · replace h := ifT (c := (!decide (v29002 = v18002.1))) hb13 h
        try simp only [go_sem]
        replace h := Option.some.inj h
        obtain rfl := h
        simp only [go_sem]
      · replace h := ifF (c := (!decide (v29002 = v18002.1))) hb13 h
        try simp only [go_sem]
        refine seq_go ?_
        try simp only [go_sem]
        replace h := Option.some.inj h
        obtain rfl := h
        simp only [go_sem]
theorem l_FnExactEncodeTemplates_j2_ok (a0 : List Net) (v6002 : (List Int) × Int) (v8001 : (List Int) × Int) (p1_0 : Bool) (r : Bool) (h : l_FnExactEncodeTemplates_j2 a0 v6002 v8001 p1_0 = some r) : posF Try.prog Try.f4 [1, 1, 1, 1, 1, 1, 1, 1, 1, 1, 1, 0, 1] (.bool r) ⟨[(0, .ro (List.map Net.ds a0)), (4, .own 1000001000), (5, .int .i64 v6002.2), (7, .own 1000001001), (61, .bool p1_0)], [(1000001000, some ⟨List.map u8D v6002.1, some 1, 0⟩), (1000001001, some ⟨List.map u8D v8001.1, some 1, 0⟩)], []⟩ := by
  unfold l_FnExactEncodeTemplates_j2 at h
  refine posF_of rfl rfl ?_
  try simp only [go_sem]
  refine cond_i (fun hb7 => ?_) (fun hb7 => ?_)
  · replace h := ifT (c := p1_0) hb7 h
    try simp only [go_sem]
    replace h := Option.some.inj h
    obtain rfl := h
    simp only [go_sem]
  · replace h := ifF (c := p1_0) hb7 h
    try simp only [go_sem]
    refine seq_go ?_
    try simp only [go_sem]
    replace h := bindE h
    obtain ⟨v18002, hv18002, h⟩ := h
    refine call_g ⟨[], [(1, 1000001001)], [], [], [], true⟩ (by kernel_rfl) (l_markByteS_ok _ _ (some 1) _ hv18002) (by kernel_rfl) ?_
    try simp only [go_sem]
    replace h := bindE h
    obtain ⟨v20002, hv20002, h⟩ := h
    refine call_i (l_heldByteS_ok _ _ _ hv20002) ?_
    try simp only [go_sem]
    refine cond_i (fun hb8 => ?_) (fun hb8 => ?_)
    · replace h := ifT (c := (decide (v20002 < 0))) hb8 h
      try simp only [go_sem]
      replace h := Option.some.inj h
      obtain rfl := h
      simp only [go_sem]
    · replace h := ifF (c := (decide (v20002 < 0))) hb8 h
      try simp only [go_sem]
      refine seq_go ?_
      try simp only [go_sem]
      refine cond_i (fun hb9 => ?_) (fun hb9 => ?_)
      · replace h := ifT (c := (!decide (v20002 = v18002.1))) hb9 h
        try simp only [go_sem]
        replace h := Option.some.inj h
        obtain rfl := h
        simp only [go_sem]
      · replace h := ifF (c := (!decide (v20002 = v18002.1))) hb9 h
        try simp only [go_sem]
        refine seq_go ?_
        try simp only [go_sem]
        replace h := bindE h
        obtain ⟨v25001, hv25001, h⟩ := h
        refine call_i (l_toNetS_ok _ _ hv25001) ?_
        try simp only [go_sem]
        replace h := bindE h
        obtain ⟨v25002, hv25002, h⟩ := h
        refine call_i (i_EncodeTemplates_ok _ _ hv25002) ?_
        try simp only [go_sem]
        replace h := bindE h
        obtain ⟨v26002, hv26002, h⟩ := h
        refine call_i (l_eqByteS_ok _ _ _ hv26002) ?_
        try simp only [go_sem]
        refine cond_i (fun hb10 => ?_) (fun hb10 => ?_)
        · replace h := ifT (c := (!v26002)) hb10 h
          try simp only [go_sem]
          have hj := posF_to rfl rfl (l_FnExactEncodeTemplates_j3_ok v18002 true _ h)
          refine seq_to hj (.one ⟨_, .done _, [(1000002000, 1000001001)], [], ?_⟩)
          clear hj
          try simp only [go_sem]
        · replace h := ifF (c := (!v26002)) hb10 h
          try simp only [go_sem]
          have hj := posF_to rfl rfl (l_FnExactEncodeTemplates_j3_ok v18002 (!decide (v25002.2 = v6002.2)) _ h)
          refine seq_to hj (.one ⟨_, .done _, [(1000002000, 1000001001)], [], ?_⟩)
          clear hj
          try simp only [go_sem]
theorem l_FnExactEncodeTemplates_j1_ok (a0 : List Net) (v6002 : (List Int) × Int) (v7001 : (List Net)) (v8001 : (List Int) × Int) (p0_0 : Bool) (r : Bool) (h : l_FnExactEncodeTemplates_j1 a0 v6002 v7001 v8001 p0_0 = some r) : posF Try.prog Try.f4 [1, 1, 1, 1, 1, 1, 1, 0, 1] (.bool r) ⟨[(0, .ro (List.map Net.ds a0)), (4, .own 1000000000), (5, .int .i64 v6002.2), (6, .own 1000000001), (7, .own 1000000002), (8, .int .i64 v8001.2), (40, .bool p0_0)], [(1000000000, some ⟨List.map u8D v6002.1, some 1, 0⟩), (1000000001, some ⟨List.map Net.ds v7001, some 1, 0⟩), (1000000002, some ⟨List.map u8D v8001.1, some 1, 0⟩)], []⟩ := by
  unfold l_FnExactEncodeTemplates_j1 at h
  refine posF_of rfl rfl ?_
  try simp only [go_sem]
  refine cond_i (fun hb3 => ?_) (fun hb3 => ?_)
  · replace h := ifT (c := p0_0) hb3 h
    try simp only [go_sem]
    replace h := Option.some.inj h
    obtain rfl := h
    simp only [go_sem]
  · replace h := ifF (c := p0_0) hb3 h
    try simp only [go_sem]
    refine seq_go ?_
    try simp only [go_sem]
    replace h := bindE h
    obtain ⟨v11002, hv11002, h⟩ := h
    refine call_i (l_toNetS_ok _ _ hv11002) ?_
    try simp only [go_sem]
    replace h := bindE h
    obtain ⟨v11003, hv11003, h⟩ := h
    refine call_i (l_eqNetS_ok _ _ _ hv11003) ?_
    try simp only [go_sem]
    refine cond_i (fun hb4 => ?_) (fun hb4 => ?_)
    · replace h := ifT (c := (!v11003)) hb4 h
      try simp only [go_sem]
      replace h := Option.some.inj h
      obtain rfl := h
      simp only [go_sem]
    · replace h := ifF (c := (!v11003)) hb4 h
      try simp only [go_sem]
      refine seq_go ?_
      try simp only [go_sem]
      replace h := bindE h
      obtain ⟨v14002, hv14002, h⟩ := h
      refine call_g ⟨[], [(1, 1000000001)], [], [], [], true⟩ (by kernel_rfl) (l_markNetS_ok _ _ (some 1) _ hv14002) (by kernel_rfl) ?_
      try simp only [go_sem]
      refine cond_i (fun hb5 => ?_) (fun hb5 => ?_)
      · replace h := ifT (c := (decide (v14002.1 < 0))) hb5 h
        try simp only [go_sem]
        have hj := posF_to rfl rfl (l_FnExactEncodeTemplates_j2_ok a0 v6002 v8001 true _ h)
        refine seq_to hj (.one ⟨_, .done _, [(1000001000, 1000000000), (1000001001, 1000000002)], [], ?_⟩)
        clear hj
        try simp only [go_sem]
      · replace h := ifF (c := (decide (v14002.1 < 0))) hb5 h
        try simp only [go_sem]
        replace h := bindE h
        obtain ⟨v15005, hv15005, h⟩ := h
        refine call_i (l_eqByteS_ok _ _ _ hv15005) ?_
        try simp only [go_sem]
        refine cond_i (fun hb6 => ?_) (fun hb6 => ?_)
        · replace h := ifT (c := (!v15005)) hb6 h
          try simp only [go_sem]
          have hj := posF_to rfl rfl (l_FnExactEncodeTemplates_j2_ok a0 v6002 v8001 true _ h)
          refine seq_to hj (.one ⟨_, .done _, [(1000001000, 1000000000), (1000001001, 1000000002)], [], ?_⟩)
          clear hj
          try simp only [go_sem]
        · replace h := ifF (c := (!v15005)) hb6 h
          try simp only [go_sem]
          have hj := posF_to rfl rfl (l_FnExactEncodeTemplates_j2_ok a0 v6002 v8001 (!decide (v8001.2 = v6002.2)) _ h)
          refine seq_to hj (.one ⟨_, .done _, [(1000001000, 1000000000), (1000001001, 1000000002)], [], ?_⟩)
          clear hj
          try simp only [go_sem]
theorem l_FnExactEncodeTemplates_ok (a0 : List Net) (r : Bool) (h : l_FnExactEncodeTemplates a0 = some r) : AC Try.prog 4 [.ro (List.map Net.ds a0)] (.bool r) := by
  unfold l_FnExactEncodeTemplates at h
  refine ac_fn mixed Try.func4 rfl rfl rfl (by kernel_rfl) (by kernel_rfl) ?_
  try simp only [go_sem]
  replace h := bindE h
  obtain ⟨v3002, hv3002, h⟩ := h
  refine call_i (l_szNetS_ok _ _ _ hv3002) ?_
  try simp only [go_sem]
  refine cond_i (fun hb1 => ?_) (fun hb1 => ?_)
  · replace h := ifT (c := (decide (v3002 < 0))) hb1 h
    try simp only [go_sem]
    replace h := Option.some.inj h
    obtain rfl := h
    simp only [go_sem]
  · replace h := ifF (c := (decide (v3002 < 0))) hb1 h
    try simp only [go_sem]
    refine seq_go ?_
    try simp only [go_sem]
    replace h := bindE h
    obtain ⟨v6001, hv6001, h⟩ := h
    refine call_i (l_toNetS_ok _ _ hv6001) ?_
    try simp only [go_sem]
    replace h := bindE h
    obtain ⟨v6002, hv6002, h⟩ := h
    refine call_i (s_EncodeTemplates_ok _ _ hv6002) ?_
    try simp only [go_sem]
    replace h := bindE h
    obtain ⟨v7001, hv7001, h⟩ := h
    refine call_i (l_toNetS_ok _ _ hv7001) ?_
    try simp only [go_sem]
    replace h := bindE h
    obtain ⟨v8001, hv8001, h⟩ := h
    refine call_i (i_EncodeTemplates_ok _ _ hv8001) ?_
    try simp only [go_sem]
    replace h := bindE h
    obtain ⟨v9002, hv9002, h⟩ := h
    refine call_i (l_eqByteS_ok _ _ _ hv9002) ?_
    try simp only [go_sem]
    refine cond_i (fun hb2 => ?_) (fun hb2 => ?_)
    · replace h := ifT (c := (!v9002)) hb2 h
      try simp only [go_sem]
      have hj := posF_to rfl rfl (l_FnExactEncodeTemplates_j1_ok a0 v6002 v7001 v8001 true _ h)
      refine seq_to hj (.one ⟨_, .done _, [(1000000000, 96032), (1000000001, 112016), (1000000002, 128016)], [], ?_⟩)
      clear hj
      try simp only [go_sem]
    · replace h := ifF (c := (!v9002)) hb2 h
      try simp only [go_sem]
      have hj := posF_to rfl rfl (l_FnExactEncodeTemplates_j1_ok a0 v6002 v7001 v8001 (!decide (v8001.2 = v6002.2)) _ h)
      refine seq_to hj (.one ⟨_, .done _, [(1000000000, 96032), (1000000001, 112016), (1000000002, 128016)], [], ?_⟩)
      clear hj
      try simp only [go_sem]
end Go.Proofs.Ytocpkbclcnjejaa.Ab
