/-
  The functions do what their models say. Printed by wip/ab/gen.py.
-/
import Derived.Test.YtckcfdggbbabfaaModD
import Derived.Test.YtckcfdggbbabfaaTi2
import Derived.Test.YtckcfdggbbabfaaWlkU
namespace Go.Proofs.Ytckcfdggbbabfaa.Ab
set_option linter.unusedVariables false
set_option linter.unusedSimpArgs false
set_option maxRecDepth 20000
set_option maxHeartbeats 4000000
open Go.RowKit

theorem g_IndexFunc_sint64_l1_all (n : Nat) : (∀ (a0 : List Int) (p0_0 : Int) (f1 : (Int → Option Bool)) (g1 : FuncId) (c1 : List AV) (s1 : Still c1) (h1 : ∀ (y0 : Int) (q : Bool), f1 y0 = some q → AC Try.prog g1 (.int .i64 y0 :: c1) (.bool q)) (r : Int), g_IndexFunc_sint64_l1 n a0 p0_0 f1 = some r → posF Try.prog Try.f62 [1, 0, 1, 0] (.int .i64 r) ⟨[(0, .ro (List.map i64D a0)), (1, .fn g1 c1), (7, .int .i64 ((List.length a0 : Nat) : Int)), (8, .int .i64 p0_0)], [], []⟩) := by
  induction n with
  | zero => exact ((fun _ _ _ _ _ _ _ _ h => by rw [g_IndexFunc_sint64_l1] at h; cases h))
  | succ n ih =>
    have ih0 := ih
    · intro a0 p0_0 f1 g1 c1 s1 h1 r h
      rw [g_IndexFunc_sint64_l1] at h
      refine posF_of rfl rfl ?_
      try simp only [go_sem, s1.k, s1.r, s1.c, s1.p]
      refine loop_i ?_
      try simp only [go_sem, s1.k, s1.r, s1.c, s1.p]
      refine cond_i (fun hb1 => ?_) (fun hb1 => ?_)
      · replace h := ifT (c := (decide (p0_0 < ((List.length a0 : Nat) : Int)))) hb1 h
        try simp only [go_sem, s1.k, s1.r, s1.c, s1.p]
        refine seq_go ?_
        try simp only [go_sem, s1.k, s1.r, s1.c, s1.p]
        replace h := bindE h
        obtain ⟨v5003, hv5003, h⟩ := h
        refine idx_m hv5003 rfl ?_
        try simp only [go_sem, s1.k, s1.r, s1.c, s1.p]
        replace h := bindE h
        obtain ⟨v5005, hv5005, h⟩ := h
        refine call_i (h1 _ _ hv5005) ?_
        try simp only [go_sem, s1.k, s1.r, s1.c, s1.p]
        refine cond_i (fun hb2 => ?_) (fun hb2 => ?_)
        · replace h := ifT (c := v5005) hb2 h
          try simp only [go_sem, s1.k, s1.r, s1.c, s1.p]
          replace h := Option.some.inj h
          obtain rfl := h
          simp only [go_sem, s1.k, s1.r, s1.c, s1.p]
        · replace h := ifF (c := v5005) hb2 h
          try simp only [go_sem, s1.k, s1.r, s1.c, s1.p]
          refine seq_go ?_
          try simp only [go_sem, s1.k, s1.r, s1.c, s1.p]
          have hj := posF_to rfl rfl (ih0 a0 (IntKind.i64.wrap (p0_0 + 1)) f1 g1 c1 s1 h1 _ h)
          refine lp_to hj (.one ⟨_, .done _, [], [], ?_⟩)
          clear hj
          try simp only [go_sem, s1.k, s1.r, s1.c, s1.p]
      · replace h := ifF (c := (decide (p0_0 < ((List.length a0 : Nat) : Int)))) hb1 h
        try simp only [go_sem, s1.k, s1.r, s1.c, s1.p]
        refine seq_go ?_
        try simp only [go_sem, s1.k, s1.r, s1.c, s1.p]
        replace h := Option.some.inj h
        obtain rfl := h
        simp only [go_sem, s1.k, s1.r, s1.c, s1.p]
theorem g_IndexFunc_sint64_l1_ok (n : Nat) : (∀ (a0 : List Int) (p0_0 : Int) (f1 : (Int → Option Bool)) (g1 : FuncId) (c1 : List AV) (s1 : Still c1) (h1 : ∀ (y0 : Int) (q : Bool), f1 y0 = some q → AC Try.prog g1 (.int .i64 y0 :: c1) (.bool q)) (r : Int), g_IndexFunc_sint64_l1 n a0 p0_0 f1 = some r → posF Try.prog Try.f62 [1, 0, 1, 0] (.int .i64 r) ⟨[(0, .ro (List.map i64D a0)), (1, .fn g1 c1), (7, .int .i64 ((List.length a0 : Nat) : Int)), (8, .int .i64 p0_0)], [], []⟩) := (g_IndexFunc_sint64_l1_all n)

theorem g_IndexFunc_sint64_ok (a0 : List Int) (f1 : (Int → Option Bool)) (g1 : FuncId) (c1 : List AV) (s1 : Still c1) (h1 : ∀ (y0 : Int) (q : Bool), f1 y0 = some q → AC Try.prog g1 (.int .i64 y0 :: c1) (.bool q)) (r : Int) (h : g_IndexFunc_sint64 a0 f1 = some r) : AC Try.prog 62 [.ro (List.map i64D a0), .fn g1 c1] (.int .i64 r) := by
  unfold g_IndexFunc_sint64 at h
  refine ac_fn mixed Try.func62 rfl rfl rfl (by kernel_rfl) (by kernel_rfl) ?_
  try simp only [go_sem, s1.k, s1.r, s1.c, s1.p]
  have hj := posF_to rfl rfl (g_IndexFunc_sint64_l1_ok fuel a0 0 f1 g1 c1 s1 h1 _ h)
  refine loop_to hj (.one ⟨_, .done _, [], [], ?_⟩)
  clear hj
  try simp only [go_sem, s1.k, s1.r, s1.c, s1.p]
theorem g_ContainsFunc_sint64_ok (a0 : List Int) (f1 : (Int → Option Bool)) (g1 : FuncId) (c1 : List AV) (s1 : Still c1) (h1 : ∀ (y0 : Int) (q : Bool), f1 y0 = some q → AC Try.prog g1 (.int .i64 y0 :: c1) (.bool q)) (r : Bool) (h : g_ContainsFunc_sint64 a0 f1 = some r) : AC Try.prog 45 [.ro (List.map i64D a0), .fn g1 c1] (.bool r) := by
  unfold g_ContainsFunc_sint64 at h
  refine ac_fn mixed Try.func45 rfl rfl rfl (by kernel_rfl) (by kernel_rfl) ?_
  try simp only [go_sem, s1.k, s1.r, s1.c, s1.p]
  replace h := bindE h
  obtain ⟨v2002, hv2002, h⟩ := h
  refine call_i (g_IndexFunc_sint64_ok _ _ g1 c1 s1 h1 _ hv2002) ?_
  try simp only [go_sem, s1.k, s1.r, s1.c, s1.p]
  replace h := Option.some.inj h
  obtain rfl := h
  simp only [go_sem, s1.k, s1.r, s1.c, s1.p]
theorem i_isTask_ok (a0 : Int) (r : Bool) (h : i_isTask a0 = some r) : AC Try.prog 47 [.int .i64 a0] (.bool r) := by
  unfold i_isTask at h
  refine ac_fn mixed Try.func47 rfl rfl rfl (by kernel_rfl) (by kernel_rfl) ?_
  try simp only [go_sem]
  refine cond_i (fun hb1 => ?_) (fun hb1 => ?_)
  · replace h := ifT (c := (decide (1 ≤ a0))) hb1 h
    try simp only [go_sem]
    refine seq_go ?_
    try simp only [go_sem]
    replace h := Option.some.inj h
    obtain rfl := h
    simp only [go_sem]
  · replace h := ifF (c := (decide (1 ≤ a0))) hb1 h
    try simp only [go_sem]
    refine seq_go ?_
    try simp only [go_sem]
    replace h := Option.some.inj h
    obtain rfl := h
    simp only [go_sem]
theorem i_ValidDeque_1_ok (a0 : Int) (r : Bool) (h : i_ValidDeque_1 a0 = some r) : AC Try.prog 46 [.int .i64 a0] (.bool r) := by
  unfold i_ValidDeque_1 at h
  refine ac_fn mixed Try.func46 rfl rfl rfl (by kernel_rfl) (by kernel_rfl) ?_
  try simp only [go_sem]
  refine cond_i (fun hb1 => ?_) (fun hb1 => ?_)
  · replace h := ifT (c := (!decide (a0 = 0))) hb1 h
    try simp only [go_sem]
    replace h := bindE h
    obtain ⟨v2004, hv2004, h⟩ := h
    refine call_i (i_isTask_ok _ _ hv2004) ?_
    try simp only [go_sem]
    refine seq_go ?_
    try simp only [go_sem]
    replace h := Option.some.inj h
    obtain rfl := h
    simp only [go_sem]
  · replace h := ifF (c := (!decide (a0 = 0))) hb1 h
    try simp only [go_sem]
    refine seq_go ?_
    try simp only [go_sem]
    replace h := Option.some.inj h
    obtain rfl := h
    simp only [go_sem]
theorem i_isEnd_ok (a0 : Int) (r : Bool) (h : i_isEnd a0 = some r) : AC Try.prog 48 [.int .i64 a0] (.bool r) := by
  unfold i_isEnd at h
  refine ac_fn mixed Try.func48 rfl rfl rfl (by kernel_rfl) (by kernel_rfl) ?_
  try simp only [go_sem]
  refine cond_i (fun hb1 => ?_) (fun hb1 => ?_)
  · replace h := ifT (c := (decide (0 ≤ a0))) hb1 h
    try simp only [go_sem]
    refine seq_go ?_
    try simp only [go_sem]
    replace h := Option.some.inj h
    obtain rfl := h
    simp only [go_sem]
  · replace h := ifF (c := (decide (0 ≤ a0))) hb1 h
    try simp only [go_sem]
    refine seq_go ?_
    try simp only [go_sem]
    replace h := Option.some.inj h
    obtain rfl := h
    simp only [go_sem]
theorem i_DequeActor_taking_ok (a0 : DequeActor) (r : Bool) (h : i_DequeActor_taking a0 = some r) : AC Try.prog 50 [.agg (DequeActor.avs a0)] (.bool r) := by
  unfold i_DequeActor_taking at h
  refine ac_fn mixed Try.func50 rfl rfl rfl (by kernel_rfl) (by kernel_rfl) ?_
  try simp only [go_sem]
  refine cond_i (fun hb1 => ?_) (fun hb1 => ?_)
  · replace h := ifT (c := (decide (0 < ((List.length a0.todo : Nat) : Int)))) hb1 h
    try simp only [go_sem]
    replace h := bindE h
    obtain ⟨v2007, hv2007, h⟩ := h
    refine idx_m hv2007 rfl ?_
    try simp only [go_sem]
    refine cond_i (fun hb2 => ?_) (fun hb2 => ?_)
    · replace h := ifT (c := (decide (v2007 = 0))) hb2 h
      try simp only [go_sem]
      refine seq_go ?_
      try simp only [go_sem]
      replace h := Option.some.inj h
      obtain rfl := h
      simp only [go_sem]
    · replace h := ifF (c := (decide (v2007 = 0))) hb2 h
      try simp only [go_sem]
      refine seq_go ?_
      try simp only [go_sem]
      replace h := Option.some.inj h
      obtain rfl := h
      simp only [go_sem]
  · replace h := ifF (c := (decide (0 < ((List.length a0.todo : Nat) : Int)))) hb1 h
    try simp only [go_sem]
    refine seq_go ?_
    try simp only [go_sem]
    replace h := Option.some.inj h
    obtain rfl := h
    simp only [go_sem]
theorem i_validActor_1_ok (a0 : Int) (a1 : Bool) (r : Bool) (h : i_validActor_1 a0 a1 = some r) : AC Try.prog 63 [.int .i64 a0, .rop [.bool a1] 0] (.bool r) := by
  unfold i_validActor_1 at h
  refine ac_fn mixed Try.func63 rfl rfl rfl (by kernel_rfl) (by kernel_rfl) ?_
  try simp only [go_sem]
  refine cond_i (fun hb1 => ?_) (fun hb1 => ?_)
  · replace h := ifT (c := (!decide (a0 = 0))) hb1 h
    try simp only [go_sem]
    refine cond_i (fun hb2 => ?_) (fun hb2 => ?_)
    · replace h := ifT (c := (!a1)) hb2 h
      try simp only [go_sem]
      refine seq_go ?_
      try simp only [go_sem]
      replace h := Option.some.inj h
      obtain rfl := h
      simp only [go_sem]
    · replace h := ifF (c := (!a1)) hb2 h
      try simp only [go_sem]
      replace h := bindE h
      obtain ⟨v2007, hv2007, h⟩ := h
      refine call_i (i_isTask_ok _ _ hv2007) ?_
      try simp only [go_sem]
      refine seq_go ?_
      try simp only [go_sem]
      replace h := Option.some.inj h
      obtain rfl := h
      simp only [go_sem]
  · replace h := ifF (c := (!decide (a0 = 0))) hb1 h
    try simp only [go_sem]
    refine seq_go ?_
    try simp only [go_sem]
    replace h := Option.some.inj h
    obtain rfl := h
    simp only [go_sem]
theorem i_validActor_j4_ok (a0 : DequeActor) (p2_0 : Int) (p3_0 : Bool) (r : Bool) (h : i_validActor_j4 a0 p2_0 p3_0 = some r) : posF Try.prog Try.f49 [1, 1, 1, 1, 1, 1] (.bool r) ⟨[(2, .box 1000003500 0), (5, .int .i64 p2_0), (6, .bool p3_0)], [], [(1000003500, some [.ro (List.map i64D a0.todo), .int .i64 a0.pc, .int .i64 a0.t, .int .i64 a0.b, .int .i64 a0.x])]⟩ := by
  unfold i_validActor_j4 at h
  refine posF_of rfl rfl ?_
  try simp only [go_sem]
  refine cond_i (fun hb12 => ?_) (fun hb12 => ?_)
  · replace h := ifT (c := (decide (1 ≤ a0.pc))) hb12 h
    try simp only [go_sem]
    refine cond_i (fun hb13 => ?_) (fun hb13 => ?_)
    · replace h := ifT (c := (decide (a0.pc ≤ p2_0))) hb13 h
      try simp only [go_sem]
      replace h := bindE h
      obtain ⟨v10012, hv10012, h⟩ := h
      refine call_i (i_isEnd_ok _ _ hv10012) ?_
      try simp only [go_sem]
      refine cond_i (fun hb14 => ?_) (fun hb14 => ?_)
      · replace h := ifT (c := v10012) hb14 h
        try simp only [go_sem]
        replace h := bindE h
        obtain ⟨v10017, hv10017, h⟩ := h
        refine call_i (i_isEnd_ok _ _ hv10017) ?_
        try simp only [go_sem]
        refine cond_i (fun hb15 => ?_) (fun hb15 => ?_)
        · replace h := ifT (c := v10017) hb15 h
          try simp only [go_sem]
          refine seq_go ?_
          try simp only [go_sem]
          replace h := Option.some.inj h
          obtain rfl := h
          simp only [go_sem]
        · replace h := ifF (c := v10017) hb15 h
          try simp only [go_sem]
          refine seq_go ?_
          try simp only [go_sem]
          replace h := Option.some.inj h
          obtain rfl := h
          simp only [go_sem]
      · replace h := ifF (c := v10012) hb14 h
        try simp only [go_sem]
        refine seq_go ?_
        try simp only [go_sem]
        replace h := Option.some.inj h
        obtain rfl := h
        simp only [go_sem]
    · replace h := ifF (c := (decide (a0.pc ≤ p2_0))) hb13 h
      try simp only [go_sem]
      refine seq_go ?_
      try simp only [go_sem]
      replace h := Option.some.inj h
      obtain rfl := h
      simp only [go_sem]
  · replace h := ifF (c := (decide (1 ≤ a0.pc))) hb12 h
    try simp only [go_sem]
    refine seq_go ?_
    try simp only [go_sem]
    replace h := Option.some.inj h
    obtain rfl := h
    simp only [go_sem]
theorem i_validActor_j3_ok (a0 : DequeActor) (a1 : Bool) (p2_0 : Int) (r : Bool) (h : i_validActor_j3 a0 a1 p2_0 = some r) : posF Try.prog Try.f49 [1, 1, 1, 1, 1] (.bool r) ⟨[(2, .box 1000002500 0), (3, .box 1000002501 0), (5, .int .i64 p2_0)], [], [(1000002500, some [.ro (List.map i64D a0.todo), .int .i64 a0.pc, .int .i64 a0.t, .int .i64 a0.b, .int .i64 a0.x]), (1000002501, some [.bool a1])]⟩ := by
  unfold i_validActor_j3 at h
  refine posF_of rfl rfl ?_
  try simp only [go_sem]
  replace h := bindE h
  obtain ⟨v9002, hv9002, h⟩ := h
  refine call_i (i_isEnd_ok _ _ hv9002) ?_
  try simp only [go_sem]
  refine cond_i (fun hb9 => ?_) (fun hb9 => ?_)
  · replace h := ifT (c := v9002) hb9 h
    try simp only [go_sem]
    have hj := posF_to rfl rfl (i_validActor_j4_ok a0 p2_0 true _ h)
    refine seq_to hj (.one ⟨_, .done _, [], [(1000003500, 1000002500)], ?_⟩)
    clear hj
    try simp only [go_sem]
  · replace h := ifF (c := v9002) hb9 h
    try simp only [go_sem]
    refine cond_i (fun hb10 => ?_) (fun hb10 => ?_)
    · replace h := ifT (c := (decide (a0.b = (-1)))) hb10 h
      try simp only [go_sem]
      refine cond_i (fun hb11 => ?_) (fun hb11 => ?_)
      · replace h := ifT (c := a1) hb11 h
        try simp only [go_sem]
        replace h := bindE h
        obtain ⟨v9012, hv9012, h⟩ := h
        refine call_i (i_DequeActor_taking_ok _ _ hv9012) ?_
        try simp only [go_sem]
        have hj := posF_to rfl rfl (i_validActor_j4_ok a0 p2_0 v9012 _ h)
        refine seq_to hj (.one ⟨_, .done _, [], [(1000003500, 1000002500)], ?_⟩)
        clear hj
        try simp only [go_sem]
      · replace h := ifF (c := a1) hb11 h
        try simp only [go_sem]
        have hj := posF_to rfl rfl (i_validActor_j4_ok a0 p2_0 false _ h)
        refine seq_to hj (.one ⟨_, .done _, [], [(1000003500, 1000002500)], ?_⟩)
        clear hj
        try simp only [go_sem]
    · replace h := ifF (c := (decide (a0.b = (-1)))) hb10 h
      try simp only [go_sem]
      have hj := posF_to rfl rfl (i_validActor_j4_ok a0 p2_0 false _ h)
      refine seq_to hj (.one ⟨_, .done _, [], [(1000003500, 1000002500)], ?_⟩)
      clear hj
      try simp only [go_sem]
theorem i_validActor_j2_ok (a0 : DequeActor) (a1 : Bool) (p1_0 : Bool) (r : Bool) (h : i_validActor_j2 a0 a1 p1_0 = some r) : posF Try.prog Try.f49 [1, 1, 0, 1] (.bool r) ⟨[(2, .box 1000001500 0), (3, .box 1000001501 0), (25, .bool p1_0)], [], [(1000001500, some [.ro (List.map i64D a0.todo), .int .i64 a0.pc, .int .i64 a0.t, .int .i64 a0.b, .int .i64 a0.x]), (1000001501, some [.bool a1])]⟩ := by
  unfold i_validActor_j2 at h
  refine posF_of rfl rfl ?_
  try simp only [go_sem]
  refine cond_i (fun hb4 => ?_) (fun hb4 => ?_)
  · replace h := ifT (c := p1_0) hb4 h
    try simp only [go_sem]
    refine cond_i (fun hb5 => ?_) (fun hb5 => ?_)
    · replace h := ifT (c := (decide (a0.pc = 0))) hb5 h
      try simp only [go_sem]
      refine cond_i (fun hb6 => ?_) (fun hb6 => ?_)
      · replace h := ifT (c := (decide (a0.t = 0))) hb6 h
        try simp only [go_sem]
        refine cond_i (fun hb7 => ?_) (fun hb7 => ?_)
        · replace h := ifT (c := (decide (a0.b = 0))) hb7 h
          try simp only [go_sem]
          refine seq_go ?_
          try simp only [go_sem]
          replace h := Option.some.inj h
          obtain rfl := h
          simp only [go_sem]
        · replace h := ifF (c := (decide (a0.b = 0))) hb7 h
          try simp only [go_sem]
          refine seq_go ?_
          try simp only [go_sem]
          replace h := Option.some.inj h
          obtain rfl := h
          simp only [go_sem]
      · replace h := ifF (c := (decide (a0.t = 0))) hb6 h
        try simp only [go_sem]
        refine seq_go ?_
        try simp only [go_sem]
        replace h := Option.some.inj h
        obtain rfl := h
        simp only [go_sem]
    · replace h := ifF (c := (decide (a0.pc = 0))) hb5 h
      try simp only [go_sem]
      refine seq_go ?_
      try simp only [go_sem]
      replace h := Option.some.inj h
      obtain rfl := h
      simp only [go_sem]
  · replace h := ifF (c := p1_0) hb4 h
    try simp only [go_sem]
    refine seq_go ?_
    try simp only [go_sem]
    replace h := bindE h
    obtain ⟨v7002, hv7002, h⟩ := h
    refine idx_m hv7002 rfl ?_
    try simp only [go_sem]
    refine cond_i (fun hb8 => ?_) (fun hb8 => ?_)
    · replace h := ifT (c := (!decide (v7002 = 0))) hb8 h
      try simp only [go_sem]
      have hj := posF_to rfl rfl (i_validActor_j3_ok a0 a1 2 _ h)
      refine seq_to hj (.one ⟨_, .done _, [], [(1000002500, 1000001500), (1000002501, 1000001501)], ?_⟩)
      clear hj
      try simp only [go_sem]
    · replace h := ifF (c := (!decide (v7002 = 0))) hb8 h
      try simp only [go_sem]
      have hj := posF_to rfl rfl (i_validActor_j3_ok a0 a1 3 _ h)
      refine seq_to hj (.one ⟨_, .done _, [], [(1000002500, 1000001500), (1000002501, 1000001501)], ?_⟩)
      clear hj
      try simp only [go_sem]
theorem i_validActor_j1_ok (a0 : DequeActor) (a1 : Bool) (p0_0 : Bool) (r : Bool) (h : i_validActor_j1 a0 a1 p0_0 = some r) : posF Try.prog Try.f49 [1, 0, 1] (.bool r) ⟨[(2, .box 1000000500 0), (3, .box 1000000501 0), (16, .bool p0_0)], [], [(1000000500, some [.ro (List.map i64D a0.todo), .int .i64 a0.pc, .int .i64 a0.t, .int .i64 a0.b, .int .i64 a0.x]), (1000000501, some [.bool a1])]⟩ := by
  unfold i_validActor_j1 at h
  refine posF_of rfl rfl ?_
  try simp only [go_sem]
  refine cond_i (fun hb2 => ?_) (fun hb2 => ?_)
  · replace h := ifT (c := p0_0) hb2 h
    try simp only [go_sem]
    replace h := Option.some.inj h
    obtain rfl := h
    simp only [go_sem]
  · replace h := ifF (c := p0_0) hb2 h
    try simp only [go_sem]
    refine seq_go ?_
    try simp only [go_sem]
    refine cond_i (fun hb3 => ?_) (fun hb3 => ?_)
    · replace h := ifT (c := (decide (((List.length a0.todo : Nat) : Int) = 0))) hb3 h
      try simp only [go_sem]
      have hj := posF_to rfl rfl (i_validActor_j2_ok a0 a1 true _ h)
      refine seq_to hj (.one ⟨_, .done _, [], [(1000001500, 1000000500), (1000001501, 1000000501)], ?_⟩)
      clear hj
      try simp only [go_sem]
    · replace h := ifF (c := (decide (((List.length a0.todo : Nat) : Int) = 0))) hb3 h
      try simp only [go_sem]
      have hj := posF_to rfl rfl (i_validActor_j2_ok a0 a1 (decide (a0.pc = 0)) _ h)
      refine seq_to hj (.one ⟨_, .done _, [], [(1000001500, 1000000500), (1000001501, 1000000501)], ?_⟩)
      clear hj
      try simp only [go_sem]
theorem i_validActor_ok (a0 : DequeActor) (a1 : Bool) (r : Bool) (h : i_validActor a0 a1 = some r) : AC Try.prog 49 [.agg (DequeActor.avs a0), .bool a1] (.bool r) := by
  unfold i_validActor at h
  refine ac_fn mixed Try.func49 rfl rfl rfl (by kernel_rfl) (by kernel_rfl) ?_
  try simp only [go_sem]
  refine cond_i (fun hb1 => ?_) (fun hb1 => ?_)
  · replace h := ifT (c := (decide (10 < ((List.length a0.todo : Nat) : Int)))) hb1 h
    try simp only [go_sem]
    have hj := posF_to rfl rfl (i_validActor_j1_ok a0 a1 true _ h)
    refine seq_to hj (.one ⟨_, .done _, [], [(1000000500, 1000), (1000000501, 1001)], ?_⟩)
    clear hj
    try simp only [go_sem]
  · replace h := ifF (c := (decide (10 < ((List.length a0.todo : Nat) : Int)))) hb1 h
    try simp only [go_sem]
    replace h := bindE h
    obtain ⟨v2008, hv2008, h⟩ := h
    refine call_i (g_ContainsFunc_sint64_ok _ _ 63 [.rop [.bool a1] 0] (Still.of (by simp only [pureAs, pureA, Bool.and_true, Bool.true_and, Bool.and_self])) (fun y0 q hq => i_validActor_1_ok y0 _ q hq) _ hv2008) ?_
    try simp only [go_sem]
    have hj := posF_to rfl rfl (i_validActor_j1_ok a0 a1 v2008 _ h)
    refine seq_to hj (.one ⟨_, .done _, [], [(1000000500, 1000), (1000000501, 1001)], ?_⟩)
    clear hj
    try simp only [go_sem]
theorem g_IndexFunc_simpl_Handed_l1_all (n : Nat) : (∀ (a0 : List Handed) (p0_0 : Int) (f1 : (Handed → Option Bool)) (g1 : FuncId) (c1 : List AV) (s1 : Still c1) (h1 : ∀ (y0 : Handed) (q : Bool), f1 y0 = some q → AC Try.prog g1 (.agg (Handed.avs y0) :: c1) (.bool q)) (r : Int), g_IndexFunc_simpl_Handed_l1 n a0 p0_0 f1 = some r → posF Try.prog Try.f64 [1, 0, 1, 0] (.int .i64 r) ⟨[(0, .ro (List.map Handed.ds a0)), (1, .fn g1 c1), (7, .int .i64 ((List.length a0 : Nat) : Int)), (8, .int .i64 p0_0)], [], []⟩) := by
  induction n with
  | zero => exact ((fun _ _ _ _ _ _ _ _ h => by rw [g_IndexFunc_simpl_Handed_l1] at h; cases h))
  | succ n ih =>
    have ih0 := ih
    · intro a0 p0_0 f1 g1 c1 s1 h1 r h
      rw [g_IndexFunc_simpl_Handed_l1] at h
      refine posF_of rfl rfl ?_
      try simp only [go_sem, s1.k, s1.r, s1.c, s1.p]
      refine loop_i ?_
      try simp only [go_sem, s1.k, s1.r, s1.c, s1.p]
      refine cond_i (fun hb1 => ?_) (fun hb1 => ?_)
      · replace h := ifT (c := (decide (p0_0 < ((List.length a0 : Nat) : Int)))) hb1 h
        try simp only [go_sem, s1.k, s1.r, s1.c, s1.p]
        refine seq_go ?_
        try simp only [go_sem, s1.k, s1.r, s1.c, s1.p]
        replace h := bindE h
        obtain ⟨v5003, hv5003, h⟩ := h
        refine idx_m hv5003 (Handed.ds_len _) ?_
        try simp only [go_sem, s1.k, s1.r, s1.c, s1.p]
        replace h := bindE h
        obtain ⟨v5005, hv5005, h⟩ := h
        refine call_i (h1 _ _ hv5005) ?_
        try simp only [go_sem, s1.k, s1.r, s1.c, s1.p]
        refine cond_i (fun hb2 => ?_) (fun hb2 => ?_)
        · replace h := ifT (c := v5005) hb2 h
          try simp only [go_sem, s1.k, s1.r, s1.c, s1.p]
          replace h := Option.some.inj h
          obtain rfl := h
          simp only [go_sem, s1.k, s1.r, s1.c, s1.p]
        · replace h := ifF (c := v5005) hb2 h
          try simp only [go_sem, s1.k, s1.r, s1.c, s1.p]
          refine seq_go ?_
          try simp only [go_sem, s1.k, s1.r, s1.c, s1.p]
          have hj := posF_to rfl rfl (ih0 a0 (IntKind.i64.wrap (p0_0 + 1)) f1 g1 c1 s1 h1 _ h)
          refine lp_to hj (.one ⟨_, .done _, [], [], ?_⟩)
          clear hj
          try simp only [go_sem, s1.k, s1.r, s1.c, s1.p]
      · replace h := ifF (c := (decide (p0_0 < ((List.length a0 : Nat) : Int)))) hb1 h
        try simp only [go_sem, s1.k, s1.r, s1.c, s1.p]
        refine seq_go ?_
        try simp only [go_sem, s1.k, s1.r, s1.c, s1.p]
        replace h := Option.some.inj h
        obtain rfl := h
        simp only [go_sem, s1.k, s1.r, s1.c, s1.p]
theorem g_IndexFunc_simpl_Handed_l1_ok (n : Nat) : (∀ (a0 : List Handed) (p0_0 : Int) (f1 : (Handed → Option Bool)) (g1 : FuncId) (c1 : List AV) (s1 : Still c1) (h1 : ∀ (y0 : Handed) (q : Bool), f1 y0 = some q → AC Try.prog g1 (.agg (Handed.avs y0) :: c1) (.bool q)) (r : Int), g_IndexFunc_simpl_Handed_l1 n a0 p0_0 f1 = some r → posF Try.prog Try.f64 [1, 0, 1, 0] (.int .i64 r) ⟨[(0, .ro (List.map Handed.ds a0)), (1, .fn g1 c1), (7, .int .i64 ((List.length a0 : Nat) : Int)), (8, .int .i64 p0_0)], [], []⟩) := (g_IndexFunc_simpl_Handed_l1_all n)

theorem g_IndexFunc_simpl_Handed_ok (a0 : List Handed) (f1 : (Handed → Option Bool)) (g1 : FuncId) (c1 : List AV) (s1 : Still c1) (h1 : ∀ (y0 : Handed) (q : Bool), f1 y0 = some q → AC Try.prog g1 (.agg (Handed.avs y0) :: c1) (.bool q)) (r : Int) (h : g_IndexFunc_simpl_Handed a0 f1 = some r) : AC Try.prog 64 [.ro (List.map Handed.ds a0), .fn g1 c1] (.int .i64 r) := by
  unfold g_IndexFunc_simpl_Handed at h
  refine ac_fn mixed Try.func64 rfl rfl rfl (by kernel_rfl) (by kernel_rfl) ?_
  try simp only [go_sem, s1.k, s1.r, s1.c, s1.p]
  have hj := posF_to rfl rfl (g_IndexFunc_simpl_Handed_l1_ok fuel a0 0 f1 g1 c1 s1 h1 _ h)
  refine loop_to hj (.one ⟨_, .done _, [], [], ?_⟩)
  clear hj
  try simp only [go_sem, s1.k, s1.r, s1.c, s1.p]
theorem g_ContainsFunc_simpl_Handed_ok (a0 : List Handed) (f1 : (Handed → Option Bool)) (g1 : FuncId) (c1 : List AV) (s1 : Still c1) (h1 : ∀ (y0 : Handed) (q : Bool), f1 y0 = some q → AC Try.prog g1 (.agg (Handed.avs y0) :: c1) (.bool q)) (r : Bool) (h : g_ContainsFunc_simpl_Handed a0 f1 = some r) : AC Try.prog 51 [.ro (List.map Handed.ds a0), .fn g1 c1] (.bool r) := by
  unfold g_ContainsFunc_simpl_Handed at h
  refine ac_fn mixed Try.func51 rfl rfl rfl (by kernel_rfl) (by kernel_rfl) ?_
  try simp only [go_sem, s1.k, s1.r, s1.c, s1.p]
  replace h := bindE h
  obtain ⟨v2002, hv2002, h⟩ := h
  refine call_i (g_IndexFunc_simpl_Handed_ok _ _ g1 c1 s1 h1 _ hv2002) ?_
  try simp only [go_sem, s1.k, s1.r, s1.c, s1.p]
  replace h := Option.some.inj h
  obtain rfl := h
  simp only [go_sem, s1.k, s1.r, s1.c, s1.p]
theorem i_ValidDeque_2_ok (a0 : Handed) (a1 : Deque) (r : Bool) (h : i_ValidDeque_2 a0 a1 = some r) : AC Try.prog 52 [.agg (Handed.avs a0), .rop (Deque.avs a1) 0] (.bool r) := by
  unfold i_ValidDeque_2 at h
  refine ac_fn mixed Try.func52 rfl rfl rfl (by kernel_rfl) (by kernel_rfl) ?_
  try simp only [go_sem]
  refine cond_i (fun hb1 => ?_) (fun hb1 => ?_)
  · replace h := ifT (c := (decide (a0.actor < 0))) hb1 h
    try simp only [go_sem]
    refine seq_go ?_
    try simp only [go_sem]
    replace h := Option.some.inj h
    obtain rfl := h
    simp only [go_sem]
  · replace h := ifF (c := (decide (a0.actor < 0))) hb1 h
    try simp only [go_sem]
    refine cond_i (fun hb2 => ?_) (fun hb2 => ?_)
    · replace h := ifT (c := (decide (((List.length a1.actors : Nat) : Int) ≤ a0.actor))) hb2 h
      try simp only [go_sem]
      refine seq_go ?_
      try simp only [go_sem]
      replace h := Option.some.inj h
      obtain rfl := h
      simp only [go_sem]
    · replace h := ifF (c := (decide (((List.length a1.actors : Nat) : Int) ≤ a0.actor))) hb2 h
      try simp only [go_sem]
      replace h := bindE h
      obtain ⟨v2014, hv2014, h⟩ := h
      refine call_i (i_isEnd_ok _ _ hv2014) ?_
      try simp only [go_sem]
      refine seq_go ?_
      try simp only [go_sem]
      replace h := Option.some.inj h
      obtain rfl := h
      simp only [go_sem]
theorem i_ValidDeque_3_ok (a0 : Int) (r : Bool) (h : i_ValidDeque_3 a0 = some r) : AC Try.prog 53 [.int .i64 a0] (.bool r) := by
  unfold i_ValidDeque_3 at h
  refine ac_fn mixed Try.func53 rfl rfl rfl (by kernel_rfl) (by kernel_rfl) ?_
  try simp only [go_sem]
  replace h := bindE h
  obtain ⟨v2001, hv2001, h⟩ := h
  refine call_i (i_isTask_ok _ _ hv2001) ?_
  try simp only [go_sem]
  replace h := Option.some.inj h
  obtain rfl := h
  simp only [go_sem]
theorem i_ValidDeque_j6_ok (a0 : Deque) (p5_0 : Bool) (r : Bool) (h : i_ValidDeque_j6 a0 p5_0 = some r) : posF Try.prog Try.f33 [1, 1, 1, 1, 1, 1, 0, 1] (.bool r) ⟨[(1, .box 1000005500 0), (97, .bool p5_0)], [], [(1000005500, some [.int .i64 a0.top, .int .i64 a0.bottom, .ro (List.map i64D a0.buffer), .ro (List.map DequeActor.ds a0.actors), .ro (List.map Handed.ds a0.taken), .ro (List.map i64D a0.refused)])]⟩ := by
  unfold i_ValidDeque_j6 at h
  refine posF_of rfl rfl ?_
  try simp only [go_sem]
  refine cond_i (fun hb16 => ?_) (fun hb16 => ?_)
  · replace h := ifT (c := p5_0) hb16 h
    try simp only [go_sem]
    replace h := Option.some.inj h
    obtain rfl := h
    simp only [go_sem]
  · replace h := ifF (c := p5_0) hb16 h
    try simp only [go_sem]
    refine seq_go ?_
    try simp only [go_sem]
    replace h := bindE h
    obtain ⟨v17003, hv17003, h⟩ := h
    refine call_i (g_ContainsFunc_simpl_Handed_ok _ _ 52 [.rop [.int .i64 a0.top, .int .i64 a0.bottom, .ro (List.map i64D a0.buffer), .ro (List.map DequeActor.ds a0.actors), .ro (List.map Handed.ds a0.taken), .ro (List.map i64D a0.refused)] 0] (Still.of (by simp only [pureAs, pureA, Bool.and_true, Bool.true_and, Bool.and_self])) (fun y0 q hq => i_ValidDeque_2_ok y0 _ q hq) _ hv17003) ?_
    try simp only [go_sem]
    refine cond_i (fun hb17 => ?_) (fun hb17 => ?_)
    · replace h := ifT (c := (!v17003)) hb17 h
      try simp only [go_sem]
      replace h := bindE h
      obtain ⟨v17008, hv17008, h⟩ := h
      refine call_i (g_ContainsFunc_sint64_ok _ _ 53 [] (Still.of rfl) (fun y0 q hq => i_ValidDeque_3_ok y0  q hq) _ hv17008) ?_
      try simp only [go_sem]
      refine seq_go ?_
      try simp only [go_sem]
      replace h := Option.some.inj h
      obtain rfl := h
      simp only [go_sem]
    · replace h := ifF (c := (!v17003)) hb17 h
      try simp only [go_sem]
      refine seq_go ?_
      try simp only [go_sem]
      replace h := Option.some.inj h
      obtain rfl := h
      simp only [go_sem]
theorem i_ValidDeque_j5_ok (a0 : Deque) (p4_0 : Bool) (r : Bool) (h : i_ValidDeque_j5 a0 p4_0 = some r) : posF Try.prog Try.f33 [1, 1, 1, 1, 1, 0, 1] (.bool r) ⟨[(1, .box 1000004500 0), (87, .bool p4_0)], [], [(1000004500, some [.int .i64 a0.top, .int .i64 a0.bottom, .ro (List.map i64D a0.buffer), .ro (List.map DequeActor.ds a0.actors), .ro (List.map Handed.ds a0.taken), .ro (List.map i64D a0.refused)])]⟩ := by
  unfold i_ValidDeque_j5 at h
  refine posF_of rfl rfl ?_
  try simp only [go_sem]
  refine cond_i (fun hb14 => ?_) (fun hb14 => ?_)
  · replace h := ifT (c := p4_0) hb14 h
    try simp only [go_sem]
    replace h := Option.some.inj h
    obtain rfl := h
    simp only [go_sem]
  · replace h := ifF (c := p4_0) hb14 h
    try simp only [go_sem]
    refine seq_go ?_
    try simp only [go_sem]
    refine cond_i (fun hb15 => ?_) (fun hb15 => ?_)
    · replace h := ifT (c := (decide (1000 < ((List.length a0.taken : Nat) : Int)))) hb15 h
      try simp only [go_sem]
      have hj := posF_to rfl rfl (i_ValidDeque_j6_ok a0 true _ h)
      refine seq_to hj (.one ⟨_, .done _, [], [(1000005500, 1000004500)], ?_⟩)
      clear hj
      try simp only [go_sem]
    · replace h := ifF (c := (decide (1000 < ((List.length a0.taken : Nat) : Int)))) hb15 h
      try simp only [go_sem]
      have hj := posF_to rfl rfl (i_ValidDeque_j6_ok a0 (decide (1000 < ((List.length a0.refused : Nat) : Int))) _ h)
      refine seq_to hj (.one ⟨_, .done _, [], [(1000005500, 1000004500)], ?_⟩)
      clear hj
      try simp only [go_sem]
theorem i_ValidDeque_l4_all (n : Nat) : (∀ (a0 : Deque) (p3_0 : Int) (r : Bool), i_ValidDeque_l4 n a0 p3_0 = some r → posF Try.prog Try.f33 [1, 1, 1, 0, 1, 0] (.bool r) ⟨[(1, .box 1000003500 0), (49, .ro (List.map DequeActor.ds a0.actors)), (50, .int .i64 ((List.length a0.actors : Nat) : Int)), (51, .int .i64 p3_0)], [], [(1000003500, some [.int .i64 a0.top, .int .i64 a0.bottom, .ro (List.map i64D a0.buffer), .ro (List.map DequeActor.ds a0.actors), .ro (List.map Handed.ds a0.taken), .ro (List.map i64D a0.refused)])]⟩) := by
  induction n with
  | zero => exact ((fun _ _ _ h => by rw [i_ValidDeque_l4] at h; cases h))
  | succ n ih =>
    have ih0 := ih
    · intro a0 p3_0 r h
      rw [i_ValidDeque_l4] at h
      refine posF_of rfl rfl ?_
      try simp only [go_sem]
      refine loop_i ?_
      try simp only [go_sem]
      refine cond_i (fun hb9 => ?_) (fun hb9 => ?_)
      · replace h := ifT (c := (decide (p3_0 < ((List.length a0.actors : Nat) : Int)))) hb9 h
        try simp only [go_sem]
        refine seq_go ?_
        try simp only [go_sem]
        replace h := bindE h
        obtain ⟨v8001, hv8001, h⟩ := h
        refine idx_m hv8001 (DequeActor.ds_len _) ?_
        try simp only [go_sem]
        replace h := bindE h
        obtain ⟨v9003, hv9003, h⟩ := h
        refine call_i (i_validActor_ok _ _ _ hv9003) ?_
        try simp only [go_sem]
        refine cond_i (fun hb10 => ?_) (fun hb10 => ?_)
        · replace h := ifT (c := (!v9003)) hb10 h
          try simp only [go_sem]
          replace h := Option.some.inj h
          obtain rfl := h
          simp only [go_sem]
        · replace h := ifF (c := (!v9003)) hb10 h
          try simp only [go_sem]
          refine seq_go ?_
          try simp only [go_sem]
          have hj := posF_to rfl rfl (ih0 a0 (IntKind.i64.wrap (p3_0 + 1)) _ h)
          refine lp_to hj (.one ⟨_, .done _, [], [(1000003500, 1000003500)], ?_⟩)
          clear hj
          try simp only [go_sem]
      · replace h := ifF (c := (decide (p3_0 < ((List.length a0.actors : Nat) : Int)))) hb9 h
        try simp only [go_sem]
        refine seq_go ?_
        try simp only [go_sem]
        refine cond_i (fun hb11 => ?_) (fun hb11 => ?_)
        · replace h := ifT (c := (decide (((List.length a0.buffer : Nat) : Int) < (IntKind.i64.wrap (a0.bottom - a0.top))))) hb11 h
          try simp only [go_sem]
          have hj := posF_to rfl rfl (i_ValidDeque_j5_ok a0 true _ h)
          refine seq_to hj (.one ⟨_, .done _, [], [(1000004500, 1000003500)], ?_⟩)
          clear hj
          try simp only [go_sem]
        · replace h := ifF (c := (decide (((List.length a0.buffer : Nat) : Int) < (IntKind.i64.wrap (a0.bottom - a0.top))))) hb11 h
          try simp only [go_sem]
          refine cond_i (fun hb12 => ?_) (fun hb12 => ?_)
          · replace h := ifT (c := (decide ((IntKind.i64.wrap (a0.bottom - a0.top)) < (-1)))) hb12 h
            try simp only [go_sem]
            have hj := posF_to rfl rfl (i_ValidDeque_j5_ok a0 true _ h)
            refine seq_to hj (.one ⟨_, .done _, [], [(1000004500, 1000003500)], ?_⟩)
            clear hj
            try simp only [go_sem]
          · replace h := ifF (c := (decide ((IntKind.i64.wrap (a0.bottom - a0.top)) < (-1)))) hb12 h
            try simp only [go_sem]
            refine cond_i (fun hb13 => ?_) (fun hb13 => ?_)
            · replace h := ifT (c := (decide ((IntKind.i64.wrap (a0.bottom - a0.top)) = (-1)))) hb13 h
              try simp only [go_sem]
              replace h := bindE h
              obtain ⟨v13015, hv13015, h⟩ := h
              refine idx_m hv13015 (DequeActor.ds_len _) ?_
              try simp only [go_sem]
              replace h := bindE h
              obtain ⟨v13017, hv13017, h⟩ := h
              refine call_i (i_DequeActor_taking_ok _ _ hv13017) ?_
              try simp only [go_sem]
              have hj := posF_to rfl rfl (i_ValidDeque_j5_ok a0 (!v13017) _ h)
              refine seq_to hj (.one ⟨_, .done _, [], [(1000004500, 1000003500)], ?_⟩)
              clear hj
              try simp only [go_sem]
            · replace h := ifF (c := (decide ((IntKind.i64.wrap (a0.bottom - a0.top)) = (-1)))) hb13 h
              try simp only [go_sem]
              have hj := posF_to rfl rfl (i_ValidDeque_j5_ok a0 false _ h)
              refine seq_to hj (.one ⟨_, .done _, [], [(1000004500, 1000003500)], ?_⟩)
              clear hj
              try simp only [go_sem]
theorem i_ValidDeque_l4_ok (n : Nat) : (∀ (a0 : Deque) (p3_0 : Int) (r : Bool), i_ValidDeque_l4 n a0 p3_0 = some r → posF Try.prog Try.f33 [1, 1, 1, 0, 1, 0] (.bool r) ⟨[(1, .box 1000003500 0), (49, .ro (List.map DequeActor.ds a0.actors)), (50, .int .i64 ((List.length a0.actors : Nat) : Int)), (51, .int .i64 p3_0)], [], [(1000003500, some [.int .i64 a0.top, .int .i64 a0.bottom, .ro (List.map i64D a0.buffer), .ro (List.map DequeActor.ds a0.actors), .ro (List.map Handed.ds a0.taken), .ro (List.map i64D a0.refused)])]⟩) := (i_ValidDeque_l4_all n)

theorem i_ValidDeque_j2_ok (a0 : Deque) (p1_0 : Bool) (r : Bool) (h : i_ValidDeque_j2 a0 p1_0 = some r) : posF Try.prog Try.f33 [1, 1, 0, 1] (.bool r) ⟨[(1, .box 1000001500 0), (47, .bool p1_0)], [], [(1000001500, some [.int .i64 a0.top, .int .i64 a0.bottom, .ro (List.map i64D a0.buffer), .ro (List.map DequeActor.ds a0.actors), .ro (List.map Handed.ds a0.taken), .ro (List.map i64D a0.refused)])]⟩ := by
  unfold i_ValidDeque_j2 at h
  refine posF_of rfl rfl ?_
  try simp only [go_sem]
  refine cond_i (fun hb8 => ?_) (fun hb8 => ?_)
  · replace h := ifT (c := p1_0) hb8 h
    try simp only [go_sem]
    replace h := Option.some.inj h
    obtain rfl := h
    simp only [go_sem]
  · replace h := ifF (c := p1_0) hb8 h
    try simp only [go_sem]
    refine seq_go ?_
    try simp only [go_sem]
    have hj := posF_to rfl rfl (i_ValidDeque_l4_ok fuel a0 0 _ h)
    refine loop_to hj (.one ⟨_, .done _, [], [(1000003500, 1000001500)], ?_⟩)
    clear hj
    try simp only [go_sem]
theorem i_ValidDeque_j1_ok (a0 : Deque) (p0_0 : Bool) (r : Bool) (h : i_ValidDeque_j1 a0 p0_0 = some r) : posF Try.prog Try.f33 [1, 0, 1] (.bool r) ⟨[(1, .box 1000000500 0), (20, .bool p0_0)], [], [(1000000500, some [.int .i64 a0.top, .int .i64 a0.bottom, .ro (List.map i64D a0.buffer), .ro (List.map DequeActor.ds a0.actors), .ro (List.map Handed.ds a0.taken), .ro (List.map i64D a0.refused)])]⟩ := by
  unfold i_ValidDeque_j1 at h
  refine posF_of rfl rfl ?_
  try simp only [go_sem]
  refine cond_i (fun hb3 => ?_) (fun hb3 => ?_)
  · replace h := ifT (c := p0_0) hb3 h
    try simp only [go_sem]
    replace h := Option.some.inj h
    obtain rfl := h
    simp only [go_sem]
  · replace h := ifF (c := p0_0) hb3 h
    try simp only [go_sem]
    refine seq_go ?_
    try simp only [go_sem]
    refine cond_i (fun hb4 => ?_) (fun hb4 => ?_)
    · replace h := ifT (c := (decide (((List.length a0.actors : Nat) : Int) < 1))) hb4 h
      try simp only [go_sem]
      have hj := posF_to rfl rfl (i_ValidDeque_j2_ok a0 true _ h)
      refine seq_to hj (.one ⟨_, .done _, [], [(1000001500, 1000000500)], ?_⟩)
      clear hj
      try simp only [go_sem]
    · replace h := ifF (c := (decide (((List.length a0.actors : Nat) : Int) < 1))) hb4 h
      try simp only [go_sem]
      refine cond_i (fun hb5 => ?_) (fun hb5 => ?_)
      · replace h := ifT (c := (decide (4 < ((List.length a0.actors : Nat) : Int)))) hb5 h
        try simp only [go_sem]
        have hj := posF_to rfl rfl (i_ValidDeque_j2_ok a0 true _ h)
        refine seq_to hj (.one ⟨_, .done _, [], [(1000001500, 1000000500)], ?_⟩)
        clear hj
        try simp only [go_sem]
      · replace h := ifF (c := (decide (4 < ((List.length a0.actors : Nat) : Int)))) hb5 h
        try simp only [go_sem]
        replace h := bindE h
        obtain ⟨v4013, hv4013, h⟩ := h
        refine call_i (i_isEnd_ok _ _ hv4013) ?_
        try simp only [go_sem]
        refine cond_i (fun hb6 => ?_) (fun hb6 => ?_)
        · replace h := ifT (c := (!v4013)) hb6 h
          try simp only [go_sem]
          have hj := posF_to rfl rfl (i_ValidDeque_j2_ok a0 true _ h)
          refine seq_to hj (.one ⟨_, .done _, [], [(1000001500, 1000000500)], ?_⟩)
          clear hj
          try simp only [go_sem]
        · replace h := ifF (c := (!v4013)) hb6 h
          try simp only [go_sem]
          refine cond_i (fun hb7 => ?_) (fun hb7 => ?_)
          · replace h := ifT (c := (!decide (a0.bottom = (-1)))) hb7 h
            try simp only [go_sem]
            replace h := bindE h
            obtain ⟨v4023, hv4023, h⟩ := h
            refine call_i (i_isEnd_ok _ _ hv4023) ?_
            try simp only [go_sem]
            have hj := posF_to rfl rfl (i_ValidDeque_j2_ok a0 (!v4023) _ h)
            refine seq_to hj (.one ⟨_, .done _, [], [(1000001500, 1000000500)], ?_⟩)
            clear hj
            try simp only [go_sem]
          · replace h := ifF (c := (!decide (a0.bottom = (-1)))) hb7 h
            try simp only [go_sem]
            have hj := posF_to rfl rfl (i_ValidDeque_j2_ok a0 false _ h)
            refine seq_to hj (.one ⟨_, .done _, [], [(1000001500, 1000000500)], ?_⟩)
            clear hj
            try simp only [go_sem]
theorem i_ValidDeque_ok (a0 : Deque) (r : Bool) (h : i_ValidDeque a0 = some r) : AC Try.prog 33 [.agg (Deque.avs a0)] (.bool r) := by
  unfold i_ValidDeque at h
  refine ac_fn mixed Try.func33 rfl rfl rfl (by kernel_rfl) (by kernel_rfl) ?_
  try simp only [go_sem]
  refine cond_i (fun hb1 => ?_) (fun hb1 => ?_)
  · replace h := ifT (c := (decide (((List.length a0.buffer : Nat) : Int) < 1))) hb1 h
    try simp only [go_sem]
    have hj := posF_to rfl rfl (i_ValidDeque_j1_ok a0 true _ h)
    refine seq_to hj (.one ⟨_, .done _, [], [(1000000500, 1000)], ?_⟩)
    clear hj
    try simp only [go_sem]
  · replace h := ifF (c := (decide (((List.length a0.buffer : Nat) : Int) < 1))) hb1 h
    try simp only [go_sem]
    refine cond_i (fun hb2 => ?_) (fun hb2 => ?_)
    · replace h := ifT (c := (decide (8 < ((List.length a0.buffer : Nat) : Int)))) hb2 h
      try simp only [go_sem]
      have hj := posF_to rfl rfl (i_ValidDeque_j1_ok a0 true _ h)
      refine seq_to hj (.one ⟨_, .done _, [], [(1000000500, 1000)], ?_⟩)
      clear hj
      try simp only [go_sem]
    · replace h := ifF (c := (decide (8 < ((List.length a0.buffer : Nat) : Int)))) hb2 h
      try simp only [go_sem]
      replace h := bindE h
      obtain ⟨v2013, hv2013, h⟩ := h
      refine call_i (g_ContainsFunc_sint64_ok _ _ 46 [] (Still.of rfl) (fun y0 q hq => i_ValidDeque_1_ok y0  q hq) _ hv2013) ?_
      try simp only [go_sem]
      have hj := posF_to rfl rfl (i_ValidDeque_j1_ok a0 v2013 _ h)
      refine seq_to hj (.one ⟨_, .done _, [], [(1000000500, 1000)], ?_⟩)
      clear hj
      try simp only [go_sem]
theorem s_l00In_ok (a0 : Int) (a1 : Int) (a2 : Int) (r : Bool) (h : s_l00In a0 a1 a2 = some r) : AC Try.prog 24 [.int .i64 a0, .int .i64 a1, .int .i64 a2] (.bool r) := by
  unfold s_l00In at h
  refine ac_fn mixed Try.func24 rfl rfl rfl (by kernel_rfl) (by kernel_rfl) ?_
  try simp only [go_sem]
  refine cond_i (fun hb1 => ?_) (fun hb1 => ?_)
  · replace h := ifT (c := (decide (a1 ≤ a0))) hb1 h
    try simp only [go_sem]
    refine seq_go ?_
    try simp only [go_sem]
    replace h := Option.some.inj h
    obtain rfl := h
    simp only [go_sem]
  · replace h := ifF (c := (decide (a1 ≤ a0))) hb1 h
    try simp only [go_sem]
    refine seq_go ?_
    try simp only [go_sem]
    replace h := Option.some.inj h
    obtain rfl := h
    simp only [go_sem]
theorem s_l23Task_ok (a0 : Int) (r : Bool) (h : s_l23Task a0 = some r) : AC Try.prog 25 [.int .i64 a0] (.bool r) := by
  unfold s_l23Task at h
  refine ac_fn mixed Try.func25 rfl rfl rfl (by kernel_rfl) (by kernel_rfl) ?_
  try simp only [go_sem]
  replace h := bindE h
  obtain ⟨v2001, hv2001, h⟩ := h
  refine call_i (s_l00In_ok _ _ _ _ hv2001) ?_
  try simp only [go_sem]
  replace h := Option.some.inj h
  obtain rfl := h
  simp only [go_sem]
theorem s_l23Actor_j7_ok (a0 : DequeActor) (a1 : Bool) (p3_0 : Bool) (p4_0 : Bool) (r : Bool) (h : s_l23Actor_j7 a0 a1 p3_0 p4_0 = some r) : posF Try.prog Try.f26 [1, 1, 1, 1, 0, 1] (.bool r) ⟨[(0, .rop [.ro (List.map i64D a0.todo), .int .i64 a0.pc, .int .i64 a0.t, .int .i64 a0.b, .int .i64 a0.x] 0), (1, .bool a1), (6, .bool p3_0), (115, .bool p4_0)], [], []⟩ := by
  unfold s_l23Actor_j7 at h
  refine posF_of rfl rfl ?_
  try simp only [go_sem]
  refine cond_i (fun hb14 => ?_) (fun hb14 => ?_)
  · replace h := ifT (c := p4_0) hb14 h
    try simp only [go_sem]
    replace h := Option.some.inj h
    obtain rfl := h
    simp only [go_sem]
  · replace h := ifF (c := p4_0) hb14 h
    try simp only [go_sem]
    refine seq_go ?_
    try simp only [go_sem]
    replace h := bindE h
    obtain ⟨v12004, hv12004, h⟩ := h
    refine idx_m hv12004 rfl ?_
    try simp only [go_sem]
    refine cond_i (fun hb15 => ?_) (fun hb15 => ?_)
    · replace h := ifT (c := (!decide (v12004 = 0))) hb15 h
      try simp only [go_sem]
      refine cond_i (fun hb16 => ?_) (fun hb16 => ?_)
      · replace h := ifT (c := (decide (a0.pc < 3))) hb16 h
        try simp only [go_sem]
        refine seq_go ?_
        try simp only [go_sem]
        replace h := Option.some.inj h
        obtain rfl := h
        simp only [go_sem]
      · replace h := ifF (c := (decide (a0.pc < 3))) hb16 h
        try simp only [go_sem]
        refine seq_go ?_
        try simp only [go_sem]
        replace h := Option.some.inj h
        obtain rfl := h
        simp only [go_sem]
    · replace h := ifF (c := (!decide (v12004 = 0))) hb15 h
      try simp only [go_sem]
      refine seq_go ?_
      try simp only [go_sem]
      refine cond_i (fun hb17 => ?_) (fun hb17 => ?_)
      · replace h := ifT (c := a1) hb17 h
        try simp only [go_sem]
        refine seq_go ?_
        try simp only [go_sem]
        replace h := Option.some.inj h
        obtain rfl := h
        simp only [go_sem]
      · replace h := ifF (c := a1) hb17 h
        try simp only [go_sem]
        refine seq_go ?_
        try simp only [go_sem]
        replace h := Option.some.inj h
        obtain rfl := h
        simp only [go_sem]
theorem s_l23Actor_j6_ok (a0 : DequeActor) (a1 : Bool) (p3_0 : Bool) (r : Bool) (h : s_l23Actor_j6 a0 a1 p3_0 = some r) : posF Try.prog Try.f26 [1, 1, 1, 1] (.bool r) ⟨[(0, .rop [.ro (List.map i64D a0.todo), .int .i64 a0.pc, .int .i64 a0.t, .int .i64 a0.b, .int .i64 a0.x] 0), (1, .bool a1), (6, .bool p3_0)], [], []⟩ := by
  unfold s_l23Actor_j6 at h
  refine posF_of rfl rfl ?_
  try simp only [go_sem]
  refine cond_i (fun hb13 => ?_) (fun hb13 => ?_)
  · replace h := ifT (c := (decide (a0.pc = 0))) hb13 h
    try simp only [go_sem]
    have hj := posF_to rfl rfl (s_l23Actor_j7_ok a0 a1 p3_0 true _ h)
    refine seq_to hj (.one ⟨_, .done _, [], [], ?_⟩)
    clear hj
    try simp only [go_sem]
  · replace h := ifF (c := (decide (a0.pc = 0))) hb13 h
    try simp only [go_sem]
    have hj := posF_to rfl rfl (s_l23Actor_j7_ok a0 a1 p3_0 (decide (((List.length a0.todo : Nat) : Int) = 0)) _ h)
    refine seq_to hj (.one ⟨_, .done _, [], [], ?_⟩)
    clear hj
    try simp only [go_sem]
theorem s_l23Actor_l4_all (n : Nat) : (∀ (a0 : DequeActor) (a1 : Bool) (p1_0 : Int) (r : Bool), s_l23Actor_l4 n a0 a1 p1_0 = some r → posF Try.prog Try.f26 [1, 1, 0, 1, 0] (.bool r) ⟨[(0, .rop [.ro (List.map i64D a0.todo), .int .i64 a0.pc, .int .i64 a0.t, .int .i64 a0.b, .int .i64 a0.x] 0), (1, .bool a1), (5, .int .i64 p1_0)], [], []⟩) ∧
    (∀ (a0 : DequeActor) (a1 : Bool) (p1_0 : Int) (p2_0 : Bool) (r : Bool), s_l23Actor_j5 n a0 a1 p1_0 p2_0 = some r → posF Try.prog Try.f26 [1, 1, 0, 1, 0, 0, 1, 0, 0, 1] (.bool r) ⟨[(0, .rop [.ro (List.map i64D a0.todo), .int .i64 a0.pc, .int .i64 a0.t, .int .i64 a0.b, .int .i64 a0.x] 0), (1, .bool a1), (5, .int .i64 p1_0), (76, .bool p2_0)], [], []⟩) := by
  induction n with
  | zero => exact ⟨(fun _ _ _ _ h => by rw [s_l23Actor_l4] at h; cases h), (fun _ _ _ _ _ h => by rw [s_l23Actor_j5] at h; cases h)⟩
  | succ n ih =>
    obtain ⟨ih0, ih1⟩ := ih
    refine ⟨?_, ?_⟩
    · intro a0 a1 p1_0 r h
      rw [s_l23Actor_l4] at h
      refine posF_of rfl rfl ?_
      try simp only [go_sem]
      refine loop_i ?_
      try simp only [go_sem]
      refine cond_i (fun hb6 => ?_) (fun hb6 => ?_)
      · replace h := ifT (c := (decide (p1_0 < ((List.length a0.todo : Nat) : Int)))) hb6 h
        try simp only [go_sem]
        refine seq_go ?_
        try simp only [go_sem]
        replace h := bindE h
        obtain ⟨v7005, hv7005, h⟩ := h
        refine idx_m hv7005 rfl ?_
        try simp only [go_sem]
        refine cond_i (fun hb7 => ?_) (fun hb7 => ?_)
        · replace h := ifT (c := (!decide (v7005 = 0))) hb7 h
          try simp only [go_sem]
          refine cond_i (fun hb8 => ?_) (fun hb8 => ?_)
          · replace h := ifT (c := (!a1)) hb8 h
            try simp only [go_sem]
            have hj := posF_to rfl rfl (ih1 a0 a1 p1_0 true _ h)
            refine seq_to hj (.one ⟨_, .done _, [], [], ?_⟩)
            clear hj
            try simp only [go_sem]
          · replace h := ifF (c := (!a1)) hb8 h
            try simp only [go_sem]
            replace h := bindE h
            obtain ⟨v7017, hv7017, h⟩ := h
            refine idx_m hv7017 rfl ?_
            try simp only [go_sem]
            replace h := bindE h
            obtain ⟨v7019, hv7019, h⟩ := h
            refine call_i (s_l23Task_ok _ _ hv7019) ?_
            try simp only [go_sem]
            have hj := posF_to rfl rfl (ih1 a0 a1 p1_0 (!v7019) _ h)
            refine seq_to hj (.one ⟨_, .done _, [], [], ?_⟩)
            clear hj
            try simp only [go_sem]
        · replace h := ifF (c := (!decide (v7005 = 0))) hb7 h
          try simp only [go_sem]
          have hj := posF_to rfl rfl (ih1 a0 a1 p1_0 false _ h)
          refine seq_to hj (.one ⟨_, .done _, [], [], ?_⟩)
          clear hj
          try simp only [go_sem]
      · replace h := ifF (c := (decide (p1_0 < ((List.length a0.todo : Nat) : Int)))) hb6 h
        try simp only [go_sem]
        refine seq_go ?_
        try simp only [go_sem]
        refine cond_i (fun hb9 => ?_) (fun hb9 => ?_)
        · replace h := ifT (c := (decide (a0.pc = 0))) hb9 h
          try simp only [go_sem]
          refine cond_i (fun hb10 => ?_) (fun hb10 => ?_)
          · replace h := ifT (c := (decide (a0.t = 0))) hb10 h
            try simp only [go_sem]
            refine cond_i (fun hb11 => ?_) (fun hb11 => ?_)
            · replace h := ifT (c := (decide (a0.b = 0))) hb11 h
              try simp only [go_sem]
              have hj := posF_to rfl rfl (s_l23Actor_j6_ok a0 a1 (decide (a0.x = 0)) _ h)
              refine seq_to hj (.one ⟨_, .done _, [], [], ?_⟩)
              clear hj
              try simp only [go_sem]
            · replace h := ifF (c := (decide (a0.b = 0))) hb11 h
              try simp only [go_sem]
              have hj := posF_to rfl rfl (s_l23Actor_j6_ok a0 a1 false _ h)
              refine seq_to hj (.one ⟨_, .done _, [], [], ?_⟩)
              clear hj
              try simp only [go_sem]
          · replace h := ifF (c := (decide (a0.t = 0))) hb10 h
            try simp only [go_sem]
            have hj := posF_to rfl rfl (s_l23Actor_j6_ok a0 a1 false _ h)
            refine seq_to hj (.one ⟨_, .done _, [], [], ?_⟩)
            clear hj
            try simp only [go_sem]
        · replace h := ifF (c := (decide (a0.pc = 0))) hb9 h
          try simp only [go_sem]
          have hj := posF_to rfl rfl (s_l23Actor_j6_ok a0 a1 false _ h)
          refine seq_to hj (.one ⟨_, .done _, [], [], ?_⟩)
          clear hj
          try simp only [go_sem]
    · intro a0 a1 p1_0 p2_0 r h
      rw [s_l23Actor_j5] at h
      refine posF_of rfl rfl ?_
      try simp only [go_sem]
      refine cond_i (fun hb12 => ?_) (fun hb12 => ?_)
      · replace h := ifT (c := p2_0) hb12 h
        try simp only [go_sem]
        replace h := Option.some.inj h
        obtain rfl := h
        simp only [go_sem]
      · replace h := ifF (c := p2_0) hb12 h
        try simp only [go_sem]
        refine seq_go ?_
        try simp only [go_sem]
        have hj := posF_to rfl rfl (ih0 a0 a1 (IntKind.i64.wrap (p1_0 + 1)) _ h)
        refine lp_to hj (.one ⟨_, .done _, [], [], ?_⟩)
        clear hj
        try simp only [go_sem]
theorem s_l23Actor_l4_ok (n : Nat) : (∀ (a0 : DequeActor) (a1 : Bool) (p1_0 : Int) (r : Bool), s_l23Actor_l4 n a0 a1 p1_0 = some r → posF Try.prog Try.f26 [1, 1, 0, 1, 0] (.bool r) ⟨[(0, .rop [.ro (List.map i64D a0.todo), .int .i64 a0.pc, .int .i64 a0.t, .int .i64 a0.b, .int .i64 a0.x] 0), (1, .bool a1), (5, .int .i64 p1_0)], [], []⟩) := (s_l23Actor_l4_all n).1
theorem s_l23Actor_j5_ok (n : Nat) : (∀ (a0 : DequeActor) (a1 : Bool) (p1_0 : Int) (p2_0 : Bool) (r : Bool), s_l23Actor_j5 n a0 a1 p1_0 p2_0 = some r → posF Try.prog Try.f26 [1, 1, 0, 1, 0, 0, 1, 0, 0, 1] (.bool r) ⟨[(0, .rop [.ro (List.map i64D a0.todo), .int .i64 a0.pc, .int .i64 a0.t, .int .i64 a0.b, .int .i64 a0.x] 0), (1, .bool a1), (5, .int .i64 p1_0), (76, .bool p2_0)], [], []⟩) := (s_l23Actor_l4_all n).2

theorem s_l23Actor_j1_ok (a0 : DequeActor) (a1 : Bool) (p0_0 : Bool) (r : Bool) (h : s_l23Actor_j1 a0 a1 p0_0 = some r) : posF Try.prog Try.f26 [1, 0, 1] (.bool r) ⟨[(0, .rop [.ro (List.map i64D a0.todo), .int .i64 a0.pc, .int .i64 a0.t, .int .i64 a0.b, .int .i64 a0.x] 0), (1, .bool a1), (44, .bool p0_0)], [], []⟩ := by
  unfold s_l23Actor_j1 at h
  refine posF_of rfl rfl ?_
  try simp only [go_sem]
  refine cond_i (fun hb5 => ?_) (fun hb5 => ?_)
  · replace h := ifT (c := p0_0) hb5 h
    try simp only [go_sem]
    replace h := Option.some.inj h
    obtain rfl := h
    simp only [go_sem]
  · replace h := ifF (c := p0_0) hb5 h
    try simp only [go_sem]
    refine seq_go ?_
    try simp only [go_sem]
    have hj := posF_to rfl rfl (s_l23Actor_l4_ok fuel a0 a1 0 _ h)
    refine loop_to hj (.one ⟨_, .done _, [], [], ?_⟩)
    clear hj
    try simp only [go_sem]
theorem s_l23Actor_ok (a0 : DequeActor) (a1 : Bool) (r : Bool) (h : s_l23Actor a0 a1 = some r) : AC Try.prog 26 [.rop (DequeActor.avs a0) 0, .bool a1] (.bool r) := by
  unfold s_l23Actor at h
  refine ac_fn mixed Try.func26 rfl rfl rfl (by kernel_rfl) (by kernel_rfl) ?_
  try simp only [go_sem]
  refine cond_i (fun hb1 => ?_) (fun hb1 => ?_)
  · replace h := ifT (c := (decide (10 < ((List.length a0.todo : Nat) : Int)))) hb1 h
    try simp only [go_sem]
    have hj := posF_to rfl rfl (s_l23Actor_j1_ok a0 a1 true _ h)
    refine seq_to hj (.one ⟨_, .done _, [], [], ?_⟩)
    clear hj
    try simp only [go_sem]
  · replace h := ifF (c := (decide (10 < ((List.length a0.todo : Nat) : Int)))) hb1 h
    try simp only [go_sem]
    replace h := bindE h
    obtain ⟨v2011, hv2011, h⟩ := h
    refine call_i (s_l00In_ok _ _ _ _ hv2011) ?_
    try simp only [go_sem]
    refine cond_i (fun hb2 => ?_) (fun hb2 => ?_)
    · replace h := ifT (c := (!v2011)) hb2 h
      try simp only [go_sem]
      have hj := posF_to rfl rfl (s_l23Actor_j1_ok a0 a1 true _ h)
      refine seq_to hj (.one ⟨_, .done _, [], [], ?_⟩)
      clear hj
      try simp only [go_sem]
    · replace h := ifF (c := (!v2011)) hb2 h
      try simp only [go_sem]
      replace h := bindE h
      obtain ⟨v2019, hv2019, h⟩ := h
      refine call_i (s_l00In_ok _ _ _ _ hv2019) ?_
      try simp only [go_sem]
      refine cond_i (fun hb3 => ?_) (fun hb3 => ?_)
      · replace h := ifT (c := (!v2019)) hb3 h
        try simp only [go_sem]
        have hj := posF_to rfl rfl (s_l23Actor_j1_ok a0 a1 true _ h)
        refine seq_to hj (.one ⟨_, .done _, [], [], ?_⟩)
        clear hj
        try simp only [go_sem]
      · replace h := ifF (c := (!v2019)) hb3 h
        try simp only [go_sem]
        replace h := bindE h
        obtain ⟨v2027, hv2027, h⟩ := h
        refine call_i (s_l00In_ok _ _ _ _ hv2027) ?_
        try simp only [go_sem]
        refine cond_i (fun hb4 => ?_) (fun hb4 => ?_)
        · replace h := ifT (c := (!v2027)) hb4 h
          try simp only [go_sem]
          have hj := posF_to rfl rfl (s_l23Actor_j1_ok a0 a1 true _ h)
          refine seq_to hj (.one ⟨_, .done _, [], [], ?_⟩)
          clear hj
          try simp only [go_sem]
        · replace h := ifF (c := (!v2027)) hb4 h
          try simp only [go_sem]
          replace h := bindE h
          obtain ⟨v2035, hv2035, h⟩ := h
          refine call_i (s_l00In_ok _ _ _ _ hv2035) ?_
          try simp only [go_sem]
          have hj := posF_to rfl rfl (s_l23Actor_j1_ok a0 a1 (!v2035) _ h)
          refine seq_to hj (.one ⟨_, .done _, [], [], ?_⟩)
          clear hj
          try simp only [go_sem]
theorem s_l23Room_j2_ok (a0 : Deque) (p1_0 : Int) (r : Bool) (h : s_l23Room_j2 a0 p1_0 = some r) : posF Try.prog Try.f27 [1, 1, 1, 1] (.bool r) ⟨[(0, .rop [.int .i64 a0.top, .int .i64 a0.bottom, .ro (List.map i64D a0.buffer), .ro (List.map DequeActor.ds a0.actors), .ro (List.map Handed.ds a0.taken), .ro (List.map i64D a0.refused)] 0), (4, .int .i64 p1_0)], [], []⟩ := by
  unfold s_l23Room_j2 at h
  refine posF_of rfl rfl ?_
  try simp only [go_sem]
  refine draw_i [] .fin (by kernel_rfl) ?_
  try simp only [go_sem]
  replace h := bindE h
  obtain ⟨v6015, hv6015, h⟩ := h
  refine call_i (s_l00In_ok _ _ _ _ hv6015) ?_
  try simp only [go_sem]
  refine seq_go ?_
  try simp only [go_sem]
  replace h := Option.some.inj h
  obtain rfl := h
  simp only [go_sem]
theorem s_l23Room_j1_ok (a0 : Deque) (p0_0 : Bool) (r : Bool) (h : s_l23Room_j1 a0 p0_0 = some r) : posF Try.prog Try.f27 [1, 1, 1, 0, 1] (.bool r) ⟨[(0, .rop [.int .i64 a0.top, .int .i64 a0.bottom, .ro (List.map i64D a0.buffer), .ro (List.map DequeActor.ds a0.actors), .ro (List.map Handed.ds a0.taken), .ro (List.map i64D a0.refused)] 0), (4, .int .i64 0), (23, .bool p0_0)], [], []⟩ := by
  unfold s_l23Room_j1 at h
  refine posF_of rfl rfl ?_
  try simp only [go_sem]
  refine cond_i (fun hb2 => ?_) (fun hb2 => ?_)
  · replace h := ifT (c := p0_0) hb2 h
    try simp only [go_sem]
    have hj := posF_to rfl rfl (s_l23Room_j2_ok a0 (-1) _ h)
    refine seq_to hj (.one ⟨_, .done _, [], [], ?_⟩)
    clear hj
    try simp only [go_sem]
  · replace h := ifF (c := p0_0) hb2 h
    try simp only [go_sem]
    have hj := posF_to rfl rfl (s_l23Room_j2_ok a0 0 _ h)
    refine seq_to hj (.one ⟨_, .done _, [], [], ?_⟩)
    clear hj
    try simp only [go_sem]
theorem s_l23Room_ok (a0 : Deque) (r : Bool) (h : s_l23Room a0 = some r) : AC Try.prog 27 [.rop (Deque.avs a0) 0] (.bool r) := by
  unfold s_l23Room at h
  refine ac_fn mixed Try.func27 rfl rfl rfl (by kernel_rfl) (by kernel_rfl) ?_
  try simp only [go_sem]
  replace h := bindE h
  obtain ⟨v2004, hv2004, h⟩ := h
  refine idx_m hv2004 (DequeActor.ds_len _) ?_
  try simp only [go_sem]
  refine cond_i (fun hb1 => ?_) (fun hb1 => ?_)
  · replace h := ifT (c := (decide (0 < v2004.pc))) hb1 h
    try simp only [go_sem]
    replace h := bindE h
    obtain ⟨v4010, hv4010, h⟩ := h
    refine idx_m hv4010 rfl ?_
    try simp only [go_sem]
    have hj := posF_to rfl rfl (s_l23Room_j1_ok a0 (decide (v4010 = 0)) _ h)
    refine seq_to hj (.one ⟨_, .done _, [], [], ?_⟩)
    clear hj
    try simp only [go_sem]
  · replace h := ifF (c := (decide (0 < v2004.pc))) hb1 h
    try simp only [go_sem]
    have hj := posF_to rfl rfl (s_l23Room_j1_ok a0 false _ h)
    refine seq_to hj (.one ⟨_, .done _, [], [], ?_⟩)
    clear hj
    try simp only [go_sem]
theorem s_l23Ok_l11_all (n : Nat) : (∀ (a0 : Deque) (p6_0 : Int) (r : Bool), s_l23Ok_l11 n a0 p6_0 = some r → posF Try.prog Try.f14 [1, 1, 1, 1, 1, 1, 0, 1, 0] (.bool r) ⟨[(0, .rop [.int .i64 a0.top, .int .i64 a0.bottom, .ro (List.map i64D a0.buffer), .ro (List.map DequeActor.ds a0.actors), .ro (List.map Handed.ds a0.taken), .ro (List.map i64D a0.refused)] 0), (7, .int .i64 p6_0)], [], []⟩) := by
  induction n with
  | zero => exact ((fun _ _ _ h => by rw [s_l23Ok_l11] at h; cases h))
  | succ n ih =>
    have ih0 := ih
    · intro a0 p6_0 r h
      rw [s_l23Ok_l11] at h
      refine posF_of rfl rfl ?_
      try simp only [go_sem]
      refine loop_i ?_
      try simp only [go_sem]
      refine cond_i (fun hb15 => ?_) (fun hb15 => ?_)
      · replace h := ifT (c := (decide (p6_0 < ((List.length a0.refused : Nat) : Int)))) hb15 h
        try simp only [go_sem]
        refine seq_go ?_
        try simp only [go_sem]
        replace h := bindE h
        obtain ⟨v23005, hv23005, h⟩ := h
        refine idx_m hv23005 rfl ?_
        try simp only [go_sem]
        replace h := bindE h
        obtain ⟨v23007, hv23007, h⟩ := h
        refine call_i (s_l23Task_ok _ _ hv23007) ?_
        try simp only [go_sem]
        refine cond_i (fun hb16 => ?_) (fun hb16 => ?_)
        · replace h := ifT (c := (!v23007)) hb16 h
          try simp only [go_sem]
          replace h := Option.some.inj h
          obtain rfl := h
          simp only [go_sem]
        · replace h := ifF (c := (!v23007)) hb16 h
          try simp only [go_sem]
          refine seq_go ?_
          try simp only [go_sem]
          have hj := posF_to rfl rfl (ih0 a0 (IntKind.i64.wrap (p6_0 + 1)) _ h)
          refine lp_to hj (.one ⟨_, .done _, [], [], ?_⟩)
          clear hj
          try simp only [go_sem]
      · replace h := ifF (c := (decide (p6_0 < ((List.length a0.refused : Nat) : Int)))) hb15 h
        try simp only [go_sem]
        refine seq_go ?_
        try simp only [go_sem]
        replace h := bindE h
        obtain ⟨v25001, hv25001, h⟩ := h
        refine call_i (s_l23Room_ok _ _ hv25001) ?_
        try simp only [go_sem]
        replace h := Option.some.inj h
        obtain rfl := h
        simp only [go_sem]
theorem s_l23Ok_l11_ok (n : Nat) : (∀ (a0 : Deque) (p6_0 : Int) (r : Bool), s_l23Ok_l11 n a0 p6_0 = some r → posF Try.prog Try.f14 [1, 1, 1, 1, 1, 1, 0, 1, 0] (.bool r) ⟨[(0, .rop [.int .i64 a0.top, .int .i64 a0.bottom, .ro (List.map i64D a0.buffer), .ro (List.map DequeActor.ds a0.actors), .ro (List.map Handed.ds a0.taken), .ro (List.map i64D a0.refused)] 0), (7, .int .i64 p6_0)], [], []⟩) := (s_l23Ok_l11_all n)

theorem s_l23Ok_l9_all (n : Nat) : (∀ (a0 : Deque) (p4_0 : Int) (r : Bool), s_l23Ok_l9 n a0 p4_0 = some r → posF Try.prog Try.f14 [1, 1, 1, 1, 1, 0, 1, 0] (.bool r) ⟨[(0, .rop [.int .i64 a0.top, .int .i64 a0.bottom, .ro (List.map i64D a0.buffer), .ro (List.map DequeActor.ds a0.actors), .ro (List.map Handed.ds a0.taken), .ro (List.map i64D a0.refused)] 0), (6, .int .i64 p4_0)], [], []⟩) ∧
    (∀ (a0 : Deque) (p4_0 : Int) (p5_0 : Bool) (r : Bool), s_l23Ok_j10 n a0 p4_0 p5_0 = some r → posF Try.prog Try.f14 [1, 1, 1, 1, 1, 0, 1, 0, 0, 1, 0, 0, 1] (.bool r) ⟨[(0, .rop [.int .i64 a0.top, .int .i64 a0.bottom, .ro (List.map i64D a0.buffer), .ro (List.map DequeActor.ds a0.actors), .ro (List.map Handed.ds a0.taken), .ro (List.map i64D a0.refused)] 0), (6, .int .i64 p4_0), (140, .bool p5_0)], [], []⟩) := by
  induction n with
  | zero => exact ⟨(fun _ _ _ h => by rw [s_l23Ok_l9] at h; cases h), (fun _ _ _ _ h => by rw [s_l23Ok_j10] at h; cases h)⟩
  | succ n ih =>
    obtain ⟨ih0, ih1⟩ := ih
    refine ⟨?_, ?_⟩
    · intro a0 p4_0 r h
      rw [s_l23Ok_l9] at h
      refine posF_of rfl rfl ?_
      try simp only [go_sem]
      refine loop_i ?_
      try simp only [go_sem]
      refine cond_i (fun hb12 => ?_) (fun hb12 => ?_)
      · replace h := ifT (c := (decide (p4_0 < ((List.length a0.taken : Nat) : Int)))) hb12 h
        try simp only [go_sem]
        refine seq_go ?_
        try simp only [go_sem]
        refine draw_i [] .fin (by kernel_rfl) ?_
        try simp only [go_sem]
        replace h := bindE h
        obtain ⟨v18005, hv18005, h⟩ := h
        refine idx_m hv18005 (Handed.ds_len _) ?_
        try simp only [go_sem]
        replace h := bindE h
        obtain ⟨v18014, hv18014, h⟩ := h
        refine call_i (s_l00In_ok _ _ _ _ hv18014) ?_
        try simp only [go_sem]
        refine cond_i (fun hb13 => ?_) (fun hb13 => ?_)
        · replace h := ifT (c := (!v18014)) hb13 h
          try simp only [go_sem]
          have hj := posF_to rfl rfl (ih1 a0 p4_0 true _ h)
          refine seq_to hj (.one ⟨_, .done _, [], [], ?_⟩)
          clear hj
          try simp only [go_sem]
        · replace h := ifF (c := (!v18014)) hb13 h
          try simp only [go_sem]
          replace h := bindE h
          obtain ⟨v18022, hv18022, h⟩ := h
          refine idx_m hv18022 (Handed.ds_len _) ?_
          try simp only [go_sem]
          replace h := bindE h
          obtain ⟨v18025, hv18025, h⟩ := h
          refine call_i (s_l00In_ok _ _ _ _ hv18025) ?_
          try simp only [go_sem]
          have hj := posF_to rfl rfl (ih1 a0 p4_0 (!v18025) _ h)
          refine seq_to hj (.one ⟨_, .done _, [], [], ?_⟩)
          clear hj
          try simp only [go_sem]
      · replace h := ifF (c := (decide (p4_0 < ((List.length a0.taken : Nat) : Int)))) hb12 h
        try simp only [go_sem]
        refine seq_go ?_
        try simp only [go_sem]
        have hj := posF_to rfl rfl (s_l23Ok_l11_ok fuel a0 0 _ h)
        refine loop_to hj (.one ⟨_, .done _, [], [], ?_⟩)
        clear hj
        try simp only [go_sem]
    · intro a0 p4_0 p5_0 r h
      rw [s_l23Ok_j10] at h
      refine posF_of rfl rfl ?_
      try simp only [go_sem]
      refine cond_i (fun hb14 => ?_) (fun hb14 => ?_)
      · replace h := ifT (c := p5_0) hb14 h
        try simp only [go_sem]
        replace h := Option.some.inj h
        obtain rfl := h
        simp only [go_sem]
      · replace h := ifF (c := p5_0) hb14 h
        try simp only [go_sem]
        refine seq_go ?_
        try simp only [go_sem]
        have hj := posF_to rfl rfl (ih0 a0 (IntKind.i64.wrap (p4_0 + 1)) _ h)
        refine lp_to hj (.one ⟨_, .done _, [], [], ?_⟩)
        clear hj
        try simp only [go_sem]
theorem s_l23Ok_l9_ok (n : Nat) : (∀ (a0 : Deque) (p4_0 : Int) (r : Bool), s_l23Ok_l9 n a0 p4_0 = some r → posF Try.prog Try.f14 [1, 1, 1, 1, 1, 0, 1, 0] (.bool r) ⟨[(0, .rop [.int .i64 a0.top, .int .i64 a0.bottom, .ro (List.map i64D a0.buffer), .ro (List.map DequeActor.ds a0.actors), .ro (List.map Handed.ds a0.taken), .ro (List.map i64D a0.refused)] 0), (6, .int .i64 p4_0)], [], []⟩) := (s_l23Ok_l9_all n).1
theorem s_l23Ok_j10_ok (n : Nat) : (∀ (a0 : Deque) (p4_0 : Int) (p5_0 : Bool) (r : Bool), s_l23Ok_j10 n a0 p4_0 p5_0 = some r → posF Try.prog Try.f14 [1, 1, 1, 1, 1, 0, 1, 0, 0, 1, 0, 0, 1] (.bool r) ⟨[(0, .rop [.int .i64 a0.top, .int .i64 a0.bottom, .ro (List.map i64D a0.buffer), .ro (List.map DequeActor.ds a0.actors), .ro (List.map Handed.ds a0.taken), .ro (List.map i64D a0.refused)] 0), (6, .int .i64 p4_0), (140, .bool p5_0)], [], []⟩) := (s_l23Ok_l9_all n).2

theorem s_l23Ok_l6_all (n : Nat) : (∀ (a0 : Deque) (p3_0 : Int) (r : Bool), s_l23Ok_l6 n a0 p3_0 = some r → posF Try.prog Try.f14 [1, 1, 1, 1, 0, 1, 0] (.bool r) ⟨[(0, .rop [.int .i64 a0.top, .int .i64 a0.bottom, .ro (List.map i64D a0.buffer), .ro (List.map DequeActor.ds a0.actors), .ro (List.map Handed.ds a0.taken), .ro (List.map i64D a0.refused)] 0), (5, .int .i64 p3_0)], [], []⟩) := by
  induction n with
  | zero => exact ((fun _ _ _ h => by rw [s_l23Ok_l6] at h; cases h))
  | succ n ih =>
    have ih0 := ih
    · intro a0 p3_0 r h
      rw [s_l23Ok_l6] at h
      refine posF_of rfl rfl ?_
      try simp only [go_sem]
      refine loop_i ?_
      try simp only [go_sem]
      refine cond_i (fun hb10 => ?_) (fun hb10 => ?_)
      · replace h := ifT (c := (decide (p3_0 < ((List.length a0.actors : Nat) : Int)))) hb10 h
        try simp only [go_sem]
        refine seq_go ?_
        try simp only [go_sem]
        replace h := bindE h
        obtain ⟨v13005, hv13005, h⟩ := h
        refine idx_m hv13005 (DequeActor.ds_len _) ?_
        try simp only [go_sem]
        replace h := bindE h
        obtain ⟨v13008, hv13008, h⟩ := h
        refine call_i (s_l23Actor_ok _ _ _ hv13008) ?_
        try simp only [go_sem]
        refine cond_i (fun hb11 => ?_) (fun hb11 => ?_)
        · replace h := ifT (c := (!v13008)) hb11 h
          try simp only [go_sem]
          replace h := Option.some.inj h
          obtain rfl := h
          simp only [go_sem]
        · replace h := ifF (c := (!v13008)) hb11 h
          try simp only [go_sem]
          refine seq_go ?_
          try simp only [go_sem]
          have hj := posF_to rfl rfl (ih0 a0 (IntKind.i64.wrap (p3_0 + 1)) _ h)
          refine lp_to hj (.one ⟨_, .done _, [], [], ?_⟩)
          clear hj
          try simp only [go_sem]
      · replace h := ifF (c := (decide (p3_0 < ((List.length a0.actors : Nat) : Int)))) hb10 h
        try simp only [go_sem]
        refine seq_go ?_
        try simp only [go_sem]
        have hj := posF_to rfl rfl (s_l23Ok_l9_ok fuel a0 0 _ h)
        refine loop_to hj (.one ⟨_, .done _, [], [], ?_⟩)
        clear hj
        try simp only [go_sem]
theorem s_l23Ok_l6_ok (n : Nat) : (∀ (a0 : Deque) (p3_0 : Int) (r : Bool), s_l23Ok_l6 n a0 p3_0 = some r → posF Try.prog Try.f14 [1, 1, 1, 1, 0, 1, 0] (.bool r) ⟨[(0, .rop [.int .i64 a0.top, .int .i64 a0.bottom, .ro (List.map i64D a0.buffer), .ro (List.map DequeActor.ds a0.actors), .ro (List.map Handed.ds a0.taken), .ro (List.map i64D a0.refused)] 0), (5, .int .i64 p3_0)], [], []⟩) := (s_l23Ok_l6_all n)

theorem s_l23Ok_l4_all (n : Nat) : (∀ (a0 : Deque) (p1_0 : Int) (r : Bool), s_l23Ok_l4 n a0 p1_0 = some r → posF Try.prog Try.f14 [1, 1, 1, 0, 1, 0] (.bool r) ⟨[(0, .rop [.int .i64 a0.top, .int .i64 a0.bottom, .ro (List.map i64D a0.buffer), .ro (List.map DequeActor.ds a0.actors), .ro (List.map Handed.ds a0.taken), .ro (List.map i64D a0.refused)] 0), (4, .int .i64 p1_0)], [], []⟩) ∧
    (∀ (a0 : Deque) (p1_0 : Int) (p2_0 : Bool) (r : Bool), s_l23Ok_j5 n a0 p1_0 p2_0 = some r → posF Try.prog Try.f14 [1, 1, 1, 0, 1, 0, 0, 1, 0, 0, 1] (.bool r) ⟨[(0, .rop [.int .i64 a0.top, .int .i64 a0.bottom, .ro (List.map i64D a0.buffer), .ro (List.map DequeActor.ds a0.actors), .ro (List.map Handed.ds a0.taken), .ro (List.map i64D a0.refused)] 0), (4, .int .i64 p1_0), (84, .bool p2_0)], [], []⟩) := by
  induction n with
  | zero => exact ⟨(fun _ _ _ h => by rw [s_l23Ok_l4] at h; cases h), (fun _ _ _ _ h => by rw [s_l23Ok_j5] at h; cases h)⟩
  | succ n ih =>
    obtain ⟨ih0, ih1⟩ := ih
    refine ⟨?_, ?_⟩
    · intro a0 p1_0 r h
      rw [s_l23Ok_l4] at h
      refine posF_of rfl rfl ?_
      try simp only [go_sem]
      refine loop_i ?_
      try simp only [go_sem]
      refine cond_i (fun hb7 => ?_) (fun hb7 => ?_)
      · replace h := ifT (c := (decide (p1_0 < ((List.length a0.buffer : Nat) : Int)))) hb7 h
        try simp only [go_sem]
        refine seq_go ?_
        try simp only [go_sem]
        replace h := bindE h
        obtain ⟨v8005, hv8005, h⟩ := h
        refine idx_m hv8005 rfl ?_
        try simp only [go_sem]
        refine cond_i (fun hb8 => ?_) (fun hb8 => ?_)
        · replace h := ifT (c := (!decide (v8005 = 0))) hb8 h
          try simp only [go_sem]
          replace h := bindE h
          obtain ⟨v8014, hv8014, h⟩ := h
          refine idx_m hv8014 rfl ?_
          try simp only [go_sem]
          replace h := bindE h
          obtain ⟨v8016, hv8016, h⟩ := h
          refine call_i (s_l23Task_ok _ _ hv8016) ?_
          try simp only [go_sem]
          have hj := posF_to rfl rfl (ih1 a0 p1_0 (!v8016) _ h)
          refine seq_to hj (.one ⟨_, .done _, [], [], ?_⟩)
          clear hj
          try simp only [go_sem]
        · replace h := ifF (c := (!decide (v8005 = 0))) hb8 h
          try simp only [go_sem]
          have hj := posF_to rfl rfl (ih1 a0 p1_0 false _ h)
          refine seq_to hj (.one ⟨_, .done _, [], [], ?_⟩)
          clear hj
          try simp only [go_sem]
      · replace h := ifF (c := (decide (p1_0 < ((List.length a0.buffer : Nat) : Int)))) hb7 h
        try simp only [go_sem]
        refine seq_go ?_
        try simp only [go_sem]
        have hj := posF_to rfl rfl (s_l23Ok_l6_ok fuel a0 0 _ h)
        refine loop_to hj (.one ⟨_, .done _, [], [], ?_⟩)
        clear hj
        try simp only [go_sem]
    · intro a0 p1_0 p2_0 r h
      rw [s_l23Ok_j5] at h
      refine posF_of rfl rfl ?_
      try simp only [go_sem]
      refine cond_i (fun hb9 => ?_) (fun hb9 => ?_)
      · replace h := ifT (c := p2_0) hb9 h
        try simp only [go_sem]
        replace h := Option.some.inj h
        obtain rfl := h
        simp only [go_sem]
      · replace h := ifF (c := p2_0) hb9 h
        try simp only [go_sem]
        refine seq_go ?_
        try simp only [go_sem]
        have hj := posF_to rfl rfl (ih0 a0 (IntKind.i64.wrap (p1_0 + 1)) _ h)
        refine lp_to hj (.one ⟨_, .done _, [], [], ?_⟩)
        clear hj
        try simp only [go_sem]
theorem s_l23Ok_l4_ok (n : Nat) : (∀ (a0 : Deque) (p1_0 : Int) (r : Bool), s_l23Ok_l4 n a0 p1_0 = some r → posF Try.prog Try.f14 [1, 1, 1, 0, 1, 0] (.bool r) ⟨[(0, .rop [.int .i64 a0.top, .int .i64 a0.bottom, .ro (List.map i64D a0.buffer), .ro (List.map DequeActor.ds a0.actors), .ro (List.map Handed.ds a0.taken), .ro (List.map i64D a0.refused)] 0), (4, .int .i64 p1_0)], [], []⟩) := (s_l23Ok_l4_all n).1
theorem s_l23Ok_j5_ok (n : Nat) : (∀ (a0 : Deque) (p1_0 : Int) (p2_0 : Bool) (r : Bool), s_l23Ok_j5 n a0 p1_0 p2_0 = some r → posF Try.prog Try.f14 [1, 1, 1, 0, 1, 0, 0, 1, 0, 0, 1] (.bool r) ⟨[(0, .rop [.int .i64 a0.top, .int .i64 a0.bottom, .ro (List.map i64D a0.buffer), .ro (List.map DequeActor.ds a0.actors), .ro (List.map Handed.ds a0.taken), .ro (List.map i64D a0.refused)] 0), (4, .int .i64 p1_0), (84, .bool p2_0)], [], []⟩) := (s_l23Ok_l4_all n).2

theorem s_l23Ok_j1_ok (a0 : Deque) (p0_0 : Bool) (r : Bool) (h : s_l23Ok_j1 a0 p0_0 = some r) : posF Try.prog Try.f14 [1, 1, 0, 1] (.bool r) ⟨[(0, .rop [.int .i64 a0.top, .int .i64 a0.bottom, .ro (List.map i64D a0.buffer), .ro (List.map DequeActor.ds a0.actors), .ro (List.map Handed.ds a0.taken), .ro (List.map i64D a0.refused)] 0), (56, .bool p0_0)], [], []⟩ := by
  unfold s_l23Ok_j1 at h
  refine posF_of rfl rfl ?_
  try simp only [go_sem]
  refine cond_i (fun hb6 => ?_) (fun hb6 => ?_)
  · replace h := ifT (c := p0_0) hb6 h
    try simp only [go_sem]
    replace h := Option.some.inj h
    obtain rfl := h
    simp only [go_sem]
  · replace h := ifF (c := p0_0) hb6 h
    try simp only [go_sem]
    refine seq_go ?_
    try simp only [go_sem]
    have hj := posF_to rfl rfl (s_l23Ok_l4_ok fuel a0 0 _ h)
    refine loop_to hj (.one ⟨_, .done _, [], [], ?_⟩)
    clear hj
    try simp only [go_sem]
theorem s_l23Ok_ok (a0 : Deque) (r : Bool) (h : s_l23Ok a0 = some r) : AC Try.prog 14 [.rop (Deque.avs a0) 0] (.bool r) := by
  unfold s_l23Ok at h
  refine ac_fn mixed Try.func14 rfl rfl rfl (by kernel_rfl) (by kernel_rfl) ?_
  try simp only [go_sem]
  replace h := bindE h
  obtain ⟨v3001, hv3001, h⟩ := h
  refine call_i (s_l00In_ok _ _ _ _ hv3001) ?_
  try simp only [go_sem]
  refine cond_i (fun hb1 => ?_) (fun hb1 => ?_)
  · replace h := ifT (c := (!v3001)) hb1 h
    try simp only [go_sem]
    have hj := posF_to rfl rfl (s_l23Ok_j1_ok a0 true _ h)
    refine seq_to hj (.one ⟨_, .done _, [], [], ?_⟩)
    clear hj
    try simp only [go_sem]
  · replace h := ifF (c := (!v3001)) hb1 h
    try simp only [go_sem]
    replace h := bindE h
    obtain ⟨v3008, hv3008, h⟩ := h
    refine call_i (s_l00In_ok _ _ _ _ hv3008) ?_
    try simp only [go_sem]
    refine cond_i (fun hb2 => ?_) (fun hb2 => ?_)
    · replace h := ifT (c := (!v3008)) hb2 h
      try simp only [go_sem]
      have hj := posF_to rfl rfl (s_l23Ok_j1_ok a0 true _ h)
      refine seq_to hj (.one ⟨_, .done _, [], [], ?_⟩)
      clear hj
      try simp only [go_sem]
    · replace h := ifF (c := (!v3008)) hb2 h
      try simp only [go_sem]
      replace h := bindE h
      obtain ⟨v3016, hv3016, h⟩ := h
      refine call_i (s_l00In_ok _ _ _ _ hv3016) ?_
      try simp only [go_sem]
      refine cond_i (fun hb3 => ?_) (fun hb3 => ?_)
      · replace h := ifT (c := (!v3016)) hb3 h
        try simp only [go_sem]
        have hj := posF_to rfl rfl (s_l23Ok_j1_ok a0 true _ h)
        refine seq_to hj (.one ⟨_, .done _, [], [], ?_⟩)
        clear hj
        try simp only [go_sem]
      · replace h := ifF (c := (!v3016)) hb3 h
        try simp only [go_sem]
        replace h := bindE h
        obtain ⟨v3025, hv3025, h⟩ := h
        refine call_i (s_l00In_ok _ _ _ _ hv3025) ?_
        try simp only [go_sem]
        refine cond_i (fun hb4 => ?_) (fun hb4 => ?_)
        · replace h := ifT (c := (!v3025)) hb4 h
          try simp only [go_sem]
          have hj := posF_to rfl rfl (s_l23Ok_j1_ok a0 true _ h)
          refine seq_to hj (.one ⟨_, .done _, [], [], ?_⟩)
          clear hj
          try simp only [go_sem]
        · replace h := ifF (c := (!v3025)) hb4 h
          try simp only [go_sem]
          refine cond_i (fun hb5 => ?_) (fun hb5 => ?_)
          · replace h := ifT (c := (decide (1000 < ((List.length a0.taken : Nat) : Int)))) hb5 h
            try simp only [go_sem]
            have hj := posF_to rfl rfl (s_l23Ok_j1_ok a0 true _ h)
            refine seq_to hj (.one ⟨_, .done _, [], [], ?_⟩)
            clear hj
            try simp only [go_sem]
          · replace h := ifF (c := (decide (1000 < ((List.length a0.taken : Nat) : Int)))) hb5 h
            try simp only [go_sem]
            have hj := posF_to rfl rfl (s_l23Ok_j1_ok a0 (decide (1000 < ((List.length a0.refused : Nat) : Int))) _ h)
            refine seq_to hj (.one ⟨_, .done _, [], [], ?_⟩)
            clear hj
            try simp only [go_sem]
theorem s_l23At_ok (a0 : Deque) (a1 : Int) (r : Int) (h : s_l23At a0 a1 = some r) : AC Try.prog 43 [.rop (Deque.avs a0) 0, .int .i64 a1] (.int .i64 r) := by
  unfold s_l23At at h
  refine ac_fn mixed Try.func43 rfl rfl rfl (by kernel_rfl) (by kernel_rfl) ?_
  try simp only [go_sem]
  replace h := bindE h
  obtain ⟨v3002, hv3002, h⟩ := h
  refine and_i (nz_some hv3002) ?_
  try simp only [go_sem]
  replace h := bindE h
  obtain ⟨v3006, hv3006, h⟩ := h
  refine and_i (nz_some hv3006) ?_
  try simp only [go_sem]
  replace h := Option.some.inj h
  obtain rfl := h
  simp only [go_sem]
theorem s_l23Left_l2_all (n : Nat) : (∀ (a0 : Deque) (p1_0 : List Int) (p1_1 : Int) (r : (List Int)), s_l23Left_l2 n a0 p1_0 p1_1 = some r → posF Try.prog Try.f28 [1, 1, 0, 1, 0] (.ow (some 1) (List.map i64D r)) ⟨[(0, .rop [.int .i64 a0.top, .int .i64 a0.bottom, .ro (List.map i64D a0.buffer), .ro (List.map DequeActor.ds a0.actors), .ro (List.map Handed.ds a0.taken), .ro (List.map i64D a0.refused)] 0), (3, .own 1000001000), (4, .int .i64 p1_1)], [(1000001000, some ⟨List.map i64D p1_0, some 1, 0⟩)], []⟩) := by
  induction n with
  | zero => exact ((fun _ _ _ _ h => by rw [s_l23Left_l2] at h; cases h))
  | succ n ih =>
    have ih0 := ih
    · intro a0 p1_0 p1_1 r h
      rw [s_l23Left_l2] at h
      refine posF_of rfl rfl ?_
      try simp only [go_sem]
      refine loop_i ?_
      try simp only [go_sem]
      refine cond_i (fun hb1 => ?_) (fun hb1 => ?_)
      · replace h := ifT (c := (decide (p1_1 < a0.bottom))) hb1 h
        try simp only [go_sem]
        refine seq_go ?_
        try simp only [go_sem]
        refine draw_i [false, false, false, false, false, false, false, false, false, false, false, true, true] (Tr.sq [11, 12] .fin) (by kernel_rfl) ?_
        try simp only [go_sem]
        replace h := bindE h
        obtain ⟨v6007, hv6007, h⟩ := h
        refine call_i (s_l23At_ok _ _ _ hv6007) ?_
        try simp only [go_sem]
        replace h := bindE h
        obtain ⟨v6008, hv6008, h⟩ := h
        refine idx_m hv6008 rfl ?_
        try simp only [go_sem]
        replace h := bindE h
        obtain ⟨v6011, hv6011, h⟩ := h
        have hq_ := app_some hv6011
        obtain ⟨hv6011a, hv6011b⟩ := hq_
        refine and_i (by refine ⟨?_, ?_⟩ <;> (try simp only [List.length_map, List.length_append, List.length_cons, List.length_nil] at *) <;> (try unfold maxLen) <;> omega) ?_
        try simp only [go_sem]
        refine row_i (List.map i64D v6011) (by rw [← hv6011b]; simp only [List.map_append, List.map_cons, List.map_nil, List.nil_append, List.append_nil, go_sem, slD]) ?_
        try simp only [go_sem]
        refine seq_go ?_
        try simp only [go_sem]
        have hj := posF_to rfl rfl (ih0 a0 v6011 (IntKind.i64.wrap (p1_1 + 1)) _ h)
        refine lp_to hj (.one ⟨_, .done _, [(1000001000, 96176)], [], ?_⟩)
        clear hj
        try simp only [go_sem]
      · replace h := ifF (c := (decide (p1_1 < a0.bottom))) hb1 h
        try simp only [go_sem]
        refine seq_go ?_
        try simp only [go_sem]
        replace h := Option.some.inj h
        obtain rfl := h
        simp only [go_sem]
theorem s_l23Left_l2_ok (n : Nat) : (∀ (a0 : Deque) (p1_0 : List Int) (p1_1 : Int) (r : (List Int)), s_l23Left_l2 n a0 p1_0 p1_1 = some r → posF Try.prog Try.f28 [1, 1, 0, 1, 0] (.ow (some 1) (List.map i64D r)) ⟨[(0, .rop [.int .i64 a0.top, .int .i64 a0.bottom, .ro (List.map i64D a0.buffer), .ro (List.map DequeActor.ds a0.actors), .ro (List.map Handed.ds a0.taken), .ro (List.map i64D a0.refused)] 0), (3, .own 1000001000), (4, .int .i64 p1_1)], [(1000001000, some ⟨List.map i64D p1_0, some 1, 0⟩)], []⟩) := (s_l23Left_l2_all n)

theorem s_l23Left_ok (a0 : Deque) (r : (List Int)) (h : s_l23Left a0 = some r) : AC Try.prog 28 [.rop (Deque.avs a0) 0] (.ow (some 1) (List.map i64D r)) := by
  unfold s_l23Left at h
  refine ac_fn mixed Try.func28 rfl rfl rfl (by kernel_rfl) (by kernel_rfl) ?_
  try simp only [go_sem]
  have hj := posF_to rfl rfl (s_l23Left_l2_ok fuel a0 [] a0.top _ h)
  refine loop_to hj (.one ⟨_, .lit 3 2000000000 2000 0 1 [] _ _ (by (first | rfl | (simp only [go_sem]; rfl))) (by simp only [go_sem]; rfl) (by (first | rfl | (simp only [go_sem]; rfl))) (by (first | rfl | (simp only [go_sem]; rfl))) (by decide) (by decide) (by simp only [go_sem]) (.done _), [(1000001000, 2000000000)], [], ?_⟩)
  clear hj
  simp only [go_sem]
  all_goals try rfl
theorem i_Deque_place_ok (a0 : Deque) (a1 : Int) (r : Int) (h : i_Deque_place a0 a1 = some r) : AG Try.prog 57 [.rop [.int .i64 a0.top, .int .i64 a0.bottom, .ro (List.map i64D a0.buffer), .ro (List.map DequeActor.ds a0.actors), .ro (List.map Handed.ds a0.taken), .ro (List.map i64D a0.refused)] 0, .int .i64 a1] [] [] (.rop [.int .i64 r] 0) [] [] := by
  unfold i_Deque_place at h
  refine ag_fn mixed Try.func57 rfl rfl rfl (by kernel_rfl) (by kernel_rfl) ?_
  try simp only [go_sem]
  refine draw_i [] .fin (by kernel_rfl) ?_
  try simp only [go_sem]
  replace h := bindE h
  obtain ⟨v3006, hv3006, h⟩ := h
  refine and_i (nz_some hv3006) ?_
  try simp only [go_sem]
  replace h := bindE h
  obtain ⟨v3010, hv3010, h⟩ := h
  refine and_i (nz_some hv3010) ?_
  try simp only [go_sem]
  replace h := bindE h
  obtain ⟨v3011, hv3011, h⟩ := h
  refine idx_m hv3011 rfl ?_
  try simp only [go_sem]
  refine seq_go ?_
  try simp only [go_sem]
  replace h := Option.some.inj h
  obtain rfl := h
  refine ret_i (.done _) [] [] ?_
  simp only [go_sem]
theorem i_Deque_tasksLeft_l1_all (n : Nat) : (∀ (a0 : Deque) (p0_0 : List Int) (p0_1 : Int) (r : (List Int)), i_Deque_tasksLeft_l1 n a0 p0_0 p0_1 = some r → posF Try.prog Try.f36 [1, 1, 0, 1, 0] (.ow (some 1) (List.map i64D r)) ⟨[(0, .rop [.int .i64 a0.top, .int .i64 a0.bottom, .ro (List.map i64D a0.buffer), .ro (List.map DequeActor.ds a0.actors), .ro (List.map Handed.ds a0.taken), .ro (List.map i64D a0.refused)] 0), (3, .own 1000000000), (4, .int .i64 p0_1)], [(1000000000, some ⟨List.map i64D p0_0, some 1, 0⟩)], []⟩) := by
  induction n with
  | zero => exact ((fun _ _ _ _ h => by rw [i_Deque_tasksLeft_l1] at h; cases h))
  | succ n ih =>
    have ih0 := ih
    · intro a0 p0_0 p0_1 r h
      rw [i_Deque_tasksLeft_l1] at h
      refine posF_of rfl rfl ?_
      try simp only [go_sem]
      refine loop_i ?_
      try simp only [go_sem]
      refine cond_i (fun hb1 => ?_) (fun hb1 => ?_)
      · replace h := ifT (c := (decide (p0_1 < a0.bottom))) hb1 h
        try simp only [go_sem]
        refine seq_go ?_
        try simp only [go_sem]
        replace h := bindE h
        obtain ⟨v6003, hv6003, h⟩ := h
        refine call_g ⟨[], [], [], [], [], true⟩ (by kernel_rfl) (i_Deque_place_ok _ _ _ hv6003) (by kernel_rfl) ?_
        try simp only [go_sem]
        replace h := bindE h
        obtain ⟨v6007, hv6007, h⟩ := h
        have hq_ := app_some hv6007
        obtain ⟨hv6007a, hv6007b⟩ := hq_
        refine and_i (by refine ⟨?_, ?_⟩ <;> (try simp only [List.length_map, List.length_append, List.length_cons, List.length_nil] at *) <;> (try unfold maxLen) <;> omega) ?_
        try simp only [go_sem]
        refine row_i (List.map i64D v6007) (by rw [← hv6007b]; simp only [List.map_append, List.map_cons, List.map_nil, List.nil_append, List.append_nil, go_sem, slD]) ?_
        try simp only [go_sem]
        refine seq_go ?_
        try simp only [go_sem]
        have hj := posF_to rfl rfl (ih0 a0 v6007 (IntKind.i64.wrap (p0_1 + 1)) _ h)
        refine lp_to hj (.one ⟨_, .done _, [(1000000000, 96112)], [], ?_⟩)
        clear hj
        try simp only [go_sem]
      · replace h := ifF (c := (decide (p0_1 < a0.bottom))) hb1 h
        try simp only [go_sem]
        refine seq_go ?_
        try simp only [go_sem]
        replace h := Option.some.inj h
        obtain rfl := h
        simp only [go_sem]
theorem i_Deque_tasksLeft_l1_ok (n : Nat) : (∀ (a0 : Deque) (p0_0 : List Int) (p0_1 : Int) (r : (List Int)), i_Deque_tasksLeft_l1 n a0 p0_0 p0_1 = some r → posF Try.prog Try.f36 [1, 1, 0, 1, 0] (.ow (some 1) (List.map i64D r)) ⟨[(0, .rop [.int .i64 a0.top, .int .i64 a0.bottom, .ro (List.map i64D a0.buffer), .ro (List.map DequeActor.ds a0.actors), .ro (List.map Handed.ds a0.taken), .ro (List.map i64D a0.refused)] 0), (3, .own 1000000000), (4, .int .i64 p0_1)], [(1000000000, some ⟨List.map i64D p0_0, some 1, 0⟩)], []⟩) := (i_Deque_tasksLeft_l1_all n)

theorem i_Deque_tasksLeft_ok (a0 : Deque) (r : (List Int)) (h : i_Deque_tasksLeft a0 = some r) : AC Try.prog 36 [.rop (Deque.avs a0) 0] (.ow (some 1) (List.map i64D r)) := by
  unfold i_Deque_tasksLeft at h
  refine ac_fn mixed Try.func36 rfl rfl rfl (by kernel_rfl) (by kernel_rfl) ?_
  try simp only [go_sem]
  have hj := posF_to rfl rfl (i_Deque_tasksLeft_l1_ok fuel a0 [] a0.top _ h)
  refine loop_to hj (.one ⟨_, .slot 3 2000000000 (some 1) (by simp only [go_sem]) (by simp only [go_sem]) (.done _), [(1000000000, 2000000000)], [], ?_⟩)
  clear hj
  simp only [go_sem]
  all_goals try rfl
end Go.Proofs.Ytckcfdggbbabfaa.Ab
