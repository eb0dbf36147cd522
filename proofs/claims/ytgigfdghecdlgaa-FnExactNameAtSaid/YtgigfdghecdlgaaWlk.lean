/-
  The functions do what their models say. Printed by wip/ab/gen.py.
-/
import Derived.Test.YtgigfdghecdlgaaMod
import Derived.Test.YtgigfdghecdlgaaTi2
namespace Go.Proofs.Ytgigfdghecdlgaa.Ab
set_option linter.unusedVariables false
set_option linter.unusedSimpArgs false
set_option maxRecDepth 20000
set_option maxHeartbeats 4000000
open Go.RowKit

theorem i_isInt_ok (a0 : Int) (r : Bool) (h : i_isInt a0 = some r) : AC Try.prog 79 [.int .i64 a0] (.bool r) := by
  unfold i_isInt at h
  refine ac_fn mixed Try.func79 rfl rfl rfl (by kernel_rfl) (by kernel_rfl) ?_
  try simp only [go_sem]
  refine cond_i (fun hb1 => ?_) (fun hb1 => ?_)
  · replace h := ifT (c := (decide ((-2147483648) ≤ a0))) hb1 h
    try simp only [go_sem]
    refine seq_go ?_
    try simp only [go_sem]
    replace h := Option.some.inj h
    obtain rfl := h
    simp only [go_sem]
  · replace h := ifF (c := (decide ((-2147483648) ≤ a0))) hb1 h
    try simp only [go_sem]
    refine seq_go ?_
    try simp only [go_sem]
    replace h := Option.some.inj h
    obtain rfl := h
    simp only [go_sem]
theorem i_isOperator_ok (a0 : Int) (r : Bool) (h : i_isOperator a0 = some r) : AC Try.prog 80 [.int .i64 a0] (.bool r) := by
  unfold i_isOperator at h
  refine ac_fn mixed Try.func80 rfl rfl rfl (by kernel_rfl) (by kernel_rfl) ?_
  try simp only [go_sem]
  refine cond_i (fun hb1 => ?_) (fun hb1 => ?_)
  · replace h := ifT (c := (decide (1 ≤ a0))) hb1 h
    try simp only [go_sem]
    refine seq_go ?_
    try simp only [go_sem]
    replace h := Option.some.inj h
    obtain rfl := h
    simp only [go_sem]
  · replace h := ifF (c := (decide (1 ≤ a0))) hb1 h
    try simp only [go_sem]
    refine seq_go ?_
    try simp only [go_sem]
    replace h := Option.some.inj h
    obtain rfl := h
    simp only [go_sem]
theorem i_isDefIndex_ok (a0 : Int) (r : Bool) (h : i_isDefIndex a0 = some r) : AC Try.prog 81 [.int .i64 a0] (.bool r) := by
  unfold i_isDefIndex at h
  refine ac_fn mixed Try.func81 rfl rfl rfl (by kernel_rfl) (by kernel_rfl) ?_
  try simp only [go_sem]
  refine cond_i (fun hb1 => ?_) (fun hb1 => ?_)
  · replace h := ifT (c := (decide (0 ≤ a0))) hb1 h
    try simp only [go_sem]
    refine seq_go ?_
    try simp only [go_sem]
    replace h := Option.some.inj h
    obtain rfl := h
    simp only [go_sem]
  · replace h := ifF (c := (decide (0 ≤ a0))) hb1 h
    try simp only [go_sem]
    refine seq_go ?_
    try simp only [go_sem]
    replace h := Option.some.inj h
    obtain rfl := h
    simp only [go_sem]
theorem g_IndexFunc_sint64_l1_all (n : Nat) : (∀ (a0 : List Int) (p0_0 : Int) (f1 : (Int → Option Bool)) (g1 : FuncId) (c1 : List AV) (s1 : Still c1) (h1 : ∀ (y0 : Int) (q : Bool), f1 y0 = some q → AC Try.prog g1 (.int .i64 y0 :: c1) (.bool q)) (r : Int), g_IndexFunc_sint64_l1 n a0 p0_0 f1 = some r → posF Try.prog Try.f84 [1, 0, 1, 0] (.int .i64 r) ⟨[(0, .ro (List.map i64D a0)), (1, .fn g1 c1), (7, .int .i64 ((List.length a0 : Nat) : Int)), (8, .int .i64 p0_0)], [], []⟩) := by
  induction n with
  | zero => exact ((fun _ _ _ _ _ _ _ _ h => by rw [g_IndexFunc_sint64_l1] at h; cases h))
  | succ n ih =>
    have ih0 := ih
    · intro a0 p0_0 f1 g1 c1 s1 h1 r h
      rw [g_IndexFunc_sint64_l1] at h
      refine posF_of rfl rfl ?_
      try simp only [go_sem, s1.k, s1.r, s1.c, s1.p]
      refine loop_i ?_
      try simp only [go_sem, s1.k, s1.r, s1.c, s1.p]
      refine cond_i (fun hb1 => ?_) (fun hb1 => ?_)
      · replace h := ifT (c := (decide (p0_0 < ((List.length a0 : Nat) : Int)))) hb1 h
        try simp only [go_sem, s1.k, s1.r, s1.c, s1.p]
        refine seq_go ?_
        try simp only [go_sem, s1.k, s1.r, s1.c, s1.p]
        replace h := bindE h
        obtain ⟨v5003, hv5003, h⟩ := h
        refine idx_m hv5003 rfl ?_
        try simp only [go_sem, s1.k, s1.r, s1.c, s1.p]
        replace h := bindE h
        obtain ⟨v5005, hv5005, h⟩ := h
        refine call_i (h1 _ _ hv5005) ?_
        try simp only [go_sem, s1.k, s1.r, s1.c, s1.p]
        refine seq_go ?_
        try simp only [go_sem, s1.k, s1.r, s1.c, s1.p]
        refine cond_i (fun hb2 => ?_) (fun hb2 => ?_)
        · replace h := ifT (c := v5005) hb2 h
          try simp only [go_sem, s1.k, s1.r, s1.c, s1.p]
          replace h := Option.some.inj h
          obtain rfl := h
          simp only [go_sem, s1.k, s1.r, s1.c, s1.p]
        · replace h := ifF (c := v5005) hb2 h
          try simp only [go_sem, s1.k, s1.r, s1.c, s1.p]
          refine seq_go ?_
          try simp only [go_sem, s1.k, s1.r, s1.c, s1.p]
          have hj := posF_to rfl rfl (ih0 a0 (IntKind.i64.wrap (p0_0 + 1)) f1 g1 c1 s1 h1 _ h)
          refine lp_to hj (.one ⟨_, .done _, [], [], ?_⟩)
          clear hj
          try simp only [go_sem, s1.k, s1.r, s1.c, s1.p]
      · replace h := ifF (c := (decide (p0_0 < ((List.length a0 : Nat) : Int)))) hb1 h
        try simp only [go_sem, s1.k, s1.r, s1.c, s1.p]
        refine seq_go ?_
        try simp only [go_sem, s1.k, s1.r, s1.c, s1.p]
        replace h := Option.some.inj h
        obtain rfl := h
        simp only [go_sem, s1.k, s1.r, s1.c, s1.p]
theorem g_IndexFunc_sint64_l1_ok (n : Nat) : (∀ (a0 : List Int) (p0_0 : Int) (f1 : (Int → Option Bool)) (g1 : FuncId) (c1 : List AV) (s1 : Still c1) (h1 : ∀ (y0 : Int) (q : Bool), f1 y0 = some q → AC Try.prog g1 (.int .i64 y0 :: c1) (.bool q)) (r : Int), g_IndexFunc_sint64_l1 n a0 p0_0 f1 = some r → posF Try.prog Try.f84 [1, 0, 1, 0] (.int .i64 r) ⟨[(0, .ro (List.map i64D a0)), (1, .fn g1 c1), (7, .int .i64 ((List.length a0 : Nat) : Int)), (8, .int .i64 p0_0)], [], []⟩) := (g_IndexFunc_sint64_l1_all n)

theorem g_IndexFunc_sint64_ok (a0 : List Int) (f1 : (Int → Option Bool)) (g1 : FuncId) (c1 : List AV) (s1 : Still c1) (h1 : ∀ (y0 : Int) (q : Bool), f1 y0 = some q → AC Try.prog g1 (.int .i64 y0 :: c1) (.bool q)) (r : Int) (h : g_IndexFunc_sint64 a0 f1 = some r) : AC Try.prog 84 [.ro (List.map i64D a0), .fn g1 c1] (.int .i64 r) := by
  unfold g_IndexFunc_sint64 at h
  refine ac_fn mixed Try.func84 rfl rfl rfl (by kernel_rfl) (by kernel_rfl) ?_
  try simp only [go_sem, s1.k, s1.r, s1.c, s1.p]
  have hj := posF_to rfl rfl (g_IndexFunc_sint64_l1_ok fuel a0 0 f1 g1 c1 s1 h1 _ h)
  refine loop_to hj (.one ⟨_, .done _, [], [], ?_⟩)
  clear hj
  try simp only [go_sem, s1.k, s1.r, s1.c, s1.p]
theorem g_ContainsFunc_sint64_ok (a0 : List Int) (f1 : (Int → Option Bool)) (g1 : FuncId) (c1 : List AV) (s1 : Still c1) (h1 : ∀ (y0 : Int) (q : Bool), f1 y0 = some q → AC Try.prog g1 (.int .i64 y0 :: c1) (.bool q)) (r : Bool) (h : g_ContainsFunc_sint64 a0 f1 = some r) : AC Try.prog 82 [.ro (List.map i64D a0), .fn g1 c1] (.bool r) := by
  unfold g_ContainsFunc_sint64 at h
  refine ac_fn mixed Try.func82 rfl rfl rfl (by kernel_rfl) (by kernel_rfl) ?_
  try simp only [go_sem, s1.k, s1.r, s1.c, s1.p]
  replace h := bindE h
  obtain ⟨v2002, hv2002, h⟩ := h
  refine call_i (g_IndexFunc_sint64_ok _ _ g1 c1 s1 h1 _ hv2002) ?_
  try simp only [go_sem, s1.k, s1.r, s1.c, s1.p]
  refine seq_go ?_
  try simp only [go_sem, s1.k, s1.r, s1.c, s1.p]
  replace h := Option.some.inj h
  obtain rfl := h
  simp only [go_sem, s1.k, s1.r, s1.c, s1.p]
theorem i_validCoreNode_1_ok (a0 : Int) (r : Bool) (h : i_validCoreNode_1 a0 = some r) : AC Try.prog 83 [.int .i64 a0] (.bool r) := by
  unfold i_validCoreNode_1 at h
  refine ac_fn mixed Try.func83 rfl rfl rfl (by kernel_rfl) (by kernel_rfl) ?_
  try simp only [go_sem]
  replace h := bindE h
  obtain ⟨v2001, hv2001, h⟩ := h
  refine call_i (i_isDefIndex_ok _ _ hv2001) ?_
  try simp only [go_sem]
  refine seq_go ?_
  try simp only [go_sem]
  replace h := Option.some.inj h
  obtain rfl := h
  simp only [go_sem]
theorem i_validCoreNode_j3_ok (a0 : Core) (p2_0 : Bool) (p2_1 : Bool) (p2_2 : Int) (r : Bool) (h : i_validCoreNode_j3 a0 p2_0 p2_1 p2_2 = some r) : posF Try.prog Try.f76 [1, 1, 1, 1, 1] (.bool r) ⟨[(1, .box 1000002500 0), (3, .int .i64 ((List.length a0.kids : Nat) : Int)), (4, .bool p2_0), (5, .bool p2_1), (6, .int .i64 p2_2)], [], [(1000002500, some [.int .i64 a0.kind, .int .i64 a0.value, .ro (List.map i64D a0.data), .ro (List.map Core.ds a0.kids)])]⟩ := by
  unfold i_validCoreNode_j3 at h
  refine posF_of rfl rfl ?_
  try simp only [go_sem]
  refine cond_i (fun hb6 => ?_) (fun hb6 => ?_)
  · replace h := ifT (c := p2_0) hb6 h
    try simp only [go_sem]
    refine cond_i (fun hb7 => ?_) (fun hb7 => ?_)
    · replace h := ifT (c := p2_1) hb7 h
      try simp only [go_sem]
      refine cond_i (fun hb8 => ?_) (fun hb8 => ?_)
      · replace h := ifT (c := (decide (((List.length a0.kids : Nat) : Int) = p2_2))) hb8 h
        try simp only [go_sem]
        replace h := bindE h
        obtain ⟨v27012, hv27012, h⟩ := h
        refine call_i (g_ContainsFunc_sint64_ok _ _ 83 [] (Still.of rfl) (fun y0 q hq => i_validCoreNode_1_ok y0  q hq) _ hv27012) ?_
        try simp only [go_sem]
        refine seq_go ?_
        try simp only [go_sem]
        replace h := Option.some.inj h
        obtain rfl := h
        simp only [go_sem]
      · replace h := ifF (c := (decide (((List.length a0.kids : Nat) : Int) = p2_2))) hb8 h
        try simp only [go_sem]
        refine seq_go ?_
        try simp only [go_sem]
        replace h := Option.some.inj h
        obtain rfl := h
        simp only [go_sem]
    · replace h := ifF (c := p2_1) hb7 h
      try simp only [go_sem]
      refine seq_go ?_
      try simp only [go_sem]
      replace h := Option.some.inj h
      obtain rfl := h
      simp only [go_sem]
  · replace h := ifF (c := p2_0) hb6 h
    try simp only [go_sem]
    refine seq_go ?_
    try simp only [go_sem]
    replace h := Option.some.inj h
    obtain rfl := h
    simp only [go_sem]
theorem i_validCoreNode_j2_ok (a0 : Core) (p1_0 : Bool) (r : Bool) (h : i_validCoreNode_j2 a0 p1_0 = some r) : posF Try.prog Try.f76 [1, 1, 1, 1, 0, 1, 0, 1, 1, 1, 1, 1, 1, 1, 1, 1] (.bool r) ⟨[(1, .box 1000001500 0), (3, .int .i64 ((List.length a0.kids : Nat) : Int)), (5, .bool (decide (((List.length a0.data : Nat) : Int) = 0))), (6, .int .i64 0), (15, .int .i64 a0.kind), (42, .bool p1_0)], [], [(1000001500, some [.int .i64 a0.kind, .int .i64 a0.value, .ro (List.map i64D a0.data), .ro (List.map Core.ds a0.kids)])]⟩ := by
  unfold i_validCoreNode_j2 at h
  refine posF_of rfl rfl ?_
  try simp only [go_sem]
  refine cond_i (fun hb11 => ?_) (fun hb11 => ?_)
  · replace h := ifT (c := p1_0) hb11 h
    try simp only [go_sem]
    have hj := posF_to rfl rfl (i_validCoreNode_j3_ok a0 (decide (a0.value = 0)) (decide (((List.length a0.data : Nat) : Int) = 0)) 2 _ h)
    refine seq_to hj (.one ⟨_, .done _, [], [(1000002500, 1000001500)], ?_⟩)
    clear hj
    try simp only [go_sem]
  · replace h := ifF (c := p1_0) hb11 h
    try simp only [go_sem]
    refine cond_i (fun hb12 => ?_) (fun hb12 => ?_)
    · replace h := ifT (c := (decide (a0.kind = 8))) hb12 h
      try simp only [go_sem]
      refine cond_i (fun hb13 => ?_) (fun hb13 => ?_)
      · replace h := ifT (c := (decide (((List.length a0.data : Nat) : Int) = 0))) hb13 h
        try simp only [go_sem]
        refine cond_i (fun hb14 => ?_) (fun hb14 => ?_)
        · replace h := ifT (c := (decide (0 ≤ a0.value))) hb14 h
          try simp only [go_sem]
          refine cond_i (fun hb15 => ?_) (fun hb15 => ?_)
          · replace h := ifT (c := (decide (a0.value < 4))) hb15 h
            try simp only [go_sem]
            refine seq_go ?_
            try simp only [go_sem]
            replace h := Option.some.inj h
            obtain rfl := h
            simp only [go_sem]
          · replace h := ifF (c := (decide (a0.value < 4))) hb15 h
            try simp only [go_sem]
            refine seq_go ?_
            try simp only [go_sem]
            replace h := Option.some.inj h
            obtain rfl := h
            simp only [go_sem]
        · replace h := ifF (c := (decide (0 ≤ a0.value))) hb14 h
          try simp only [go_sem]
          refine seq_go ?_
          try simp only [go_sem]
          replace h := Option.some.inj h
          obtain rfl := h
          simp only [go_sem]
      · replace h := ifF (c := (decide (((List.length a0.data : Nat) : Int) = 0))) hb13 h
        try simp only [go_sem]
        refine seq_go ?_
        try simp only [go_sem]
        replace h := Option.some.inj h
        obtain rfl := h
        simp only [go_sem]
    · replace h := ifF (c := (decide (a0.kind = 8))) hb12 h
      try simp only [go_sem]
      refine cond_i (fun hb16 => ?_) (fun hb16 => ?_)
      · replace h := ifT (c := (decide (a0.kind = 9))) hb16 h
        try simp only [go_sem]
        refine draw_i [] .fin (by kernel_rfl) ?_
        try simp only [go_sem]
        refine cond_i (fun hb17 => ?_) (fun hb17 => ?_)
        · replace h := ifT (c := (decide (1 ≤ ((List.length a0.data : Nat) : Int)))) hb17 h
          try simp only [go_sem]
          have hj := posF_to rfl rfl (i_validCoreNode_j3_ok a0 (decide (a0.value = 0)) (decide (((List.length a0.data : Nat) : Int) ≤ 4)) 1 _ h)
          refine seq_to hj (.one ⟨_, .done _, [], [(1000002500, 1000001500)], ?_⟩)
          clear hj
          try simp only [go_sem]
        · replace h := ifF (c := (decide (1 ≤ ((List.length a0.data : Nat) : Int)))) hb17 h
          try simp only [go_sem]
          have hj := posF_to rfl rfl (i_validCoreNode_j3_ok a0 (decide (a0.value = 0)) false 1 _ h)
          refine seq_to hj (.one ⟨_, .done _, [], [(1000002500, 1000001500)], ?_⟩)
          clear hj
          try simp only [go_sem]
      · replace h := ifF (c := (decide (a0.kind = 9))) hb16 h
        try simp only [go_sem]
        refine cond_i (fun hb18 => ?_) (fun hb18 => ?_)
        · replace h := ifT (c := (decide (a0.kind = 10))) hb18 h
          try simp only [go_sem]
          refine draw_i [] .fin (by kernel_rfl) ?_
          try simp only [go_sem]
          have hj := posF_to rfl rfl (i_validCoreNode_j3_ok a0 (decide (a0.value = 0)) (decide (((List.length a0.data : Nat) : Int) = 2)) 1 _ h)
          refine seq_to hj (.one ⟨_, .done _, [], [(1000002500, 1000001500)], ?_⟩)
          clear hj
          try simp only [go_sem]
        · replace h := ifF (c := (decide (a0.kind = 10))) hb18 h
          try simp only [go_sem]
          refine cond_i (fun hb19 => ?_) (fun hb19 => ?_)
          · replace h := ifT (c := (decide (a0.kind = 11))) hb19 h
            try simp only [go_sem]
            replace h := bindE h
            obtain ⟨v26002, hv26002, h⟩ := h
            refine call_i (i_isDefIndex_ok _ _ hv26002) ?_
            try simp only [go_sem]
            have hj := posF_to rfl rfl (i_validCoreNode_j3_ok a0 v26002 (decide (((List.length a0.data : Nat) : Int) = 0)) 0 _ h)
            refine seq_to hj (.one ⟨_, .done _, [], [(1000002500, 1000001500)], ?_⟩)
            clear hj
            try simp only [go_sem]
          · replace h := ifF (c := (decide (a0.kind = 11))) hb19 h
            try simp only [go_sem]
            replace h := Option.some.inj h
            obtain rfl := h
            simp only [go_sem]
theorem i_validCoreNode_j1_ok (a0 : Core) (p0_0 : Bool) (r : Bool) (h : i_validCoreNode_j1 a0 p0_0 = some r) : posF Try.prog Try.f76 [1, 1, 1, 1, 0, 1, 0, 1, 1, 1, 1, 1, 1, 1] (.bool r) ⟨[(1, .box 1000000500 0), (3, .int .i64 ((List.length a0.kids : Nat) : Int)), (5, .bool (decide (((List.length a0.data : Nat) : Int) = 0))), (6, .int .i64 0), (15, .int .i64 a0.kind), (36, .bool p0_0)], [], [(1000000500, some [.int .i64 a0.kind, .int .i64 a0.value, .ro (List.map i64D a0.data), .ro (List.map Core.ds a0.kids)])]⟩ := by
  unfold i_validCoreNode_j1 at h
  refine posF_of rfl rfl ?_
  try simp only [go_sem]
  refine cond_i (fun hb9 => ?_) (fun hb9 => ?_)
  · replace h := ifT (c := p0_0) hb9 h
    try simp only [go_sem]
    have hj := posF_to rfl rfl (i_validCoreNode_j3_ok a0 (decide (a0.value = 0)) (decide (((List.length a0.data : Nat) : Int) = 0)) 1 _ h)
    refine seq_to hj (.one ⟨_, .done _, [], [(1000002500, 1000000500)], ?_⟩)
    clear hj
    try simp only [go_sem]
  · replace h := ifF (c := p0_0) hb9 h
    try simp only [go_sem]
    refine cond_i (fun hb10 => ?_) (fun hb10 => ?_)
    · replace h := ifT (c := (decide (a0.kind = 5))) hb10 h
      try simp only [go_sem]
      have hj := posF_to rfl rfl (i_validCoreNode_j2_ok a0 (decide (a0.kind = 5)) _ h)
      refine seq_to hj (.one ⟨_, .done _, [], [(1000001500, 1000000500)], ?_⟩)
      clear hj
      try simp only [go_sem]
    · replace h := ifF (c := (decide (a0.kind = 5))) hb10 h
      try simp only [go_sem]
      have hj := posF_to rfl rfl (i_validCoreNode_j2_ok a0 (decide (a0.kind = 7)) _ h)
      refine seq_to hj (.one ⟨_, .done _, [], [(1000001500, 1000000500)], ?_⟩)
      clear hj
      try simp only [go_sem]
theorem i_validCoreNode_ok (a0 : Core) (r : Bool) (h : i_validCoreNode a0 = some r) : AC Try.prog 76 [.agg (Core.avs a0)] (.bool r) := by
  unfold i_validCoreNode at h
  refine ac_fn mixed Try.func76 rfl rfl rfl (by kernel_rfl) (by kernel_rfl) ?_
  try simp only [go_sem]
  refine draw_i [] .fin (by kernel_rfl) ?_
  try simp only [go_sem]
  refine seq_go ?_
  try simp only [go_sem]
  refine cond_i (fun hb1 => ?_) (fun hb1 => ?_)
  · replace h := ifT (c := (decide (a0.kind = 1))) hb1 h
    try simp only [go_sem]
    refine cond_i (fun hb2 => ?_) (fun hb2 => ?_)
    · replace h := ifT (c := (decide (0 ≤ a0.value))) hb2 h
      try simp only [go_sem]
      have hj := posF_to rfl rfl (i_validCoreNode_j3_ok a0 (decide (a0.value ≤ 255)) (decide (((List.length a0.data : Nat) : Int) = 0)) 0 _ h)
      refine seq_to hj (.one ⟨_, .done _, [], [(1000002500, 1000)], ?_⟩)
      clear hj
      try simp only [go_sem]
    · replace h := ifF (c := (decide (0 ≤ a0.value))) hb2 h
      try simp only [go_sem]
      have hj := posF_to rfl rfl (i_validCoreNode_j3_ok a0 false (decide (((List.length a0.data : Nat) : Int) = 0)) 0 _ h)
      refine seq_to hj (.one ⟨_, .done _, [], [(1000002500, 1000)], ?_⟩)
      clear hj
      try simp only [go_sem]
  · replace h := ifF (c := (decide (a0.kind = 1))) hb1 h
    try simp only [go_sem]
    refine cond_i (fun hb3 => ?_) (fun hb3 => ?_)
    · replace h := ifT (c := (decide (a0.kind = 2))) hb3 h
      try simp only [go_sem]
      replace h := bindE h
      obtain ⟨v10002, hv10002, h⟩ := h
      refine call_i (i_isInt_ok _ _ hv10002) ?_
      try simp only [go_sem]
      have hj := posF_to rfl rfl (i_validCoreNode_j3_ok a0 v10002 (decide (((List.length a0.data : Nat) : Int) = 0)) 0 _ h)
      refine seq_to hj (.one ⟨_, .done _, [], [(1000002500, 1000)], ?_⟩)
      clear hj
      try simp only [go_sem]
    · replace h := ifF (c := (decide (a0.kind = 2))) hb3 h
      try simp only [go_sem]
      refine cond_i (fun hb4 => ?_) (fun hb4 => ?_)
      · replace h := ifT (c := (decide (a0.kind = 3))) hb4 h
        try simp only [go_sem]
        replace h := bindE h
        obtain ⟨v12002, hv12002, h⟩ := h
        refine call_i (i_isOperator_ok _ _ hv12002) ?_
        try simp only [go_sem]
        have hj := posF_to rfl rfl (i_validCoreNode_j3_ok a0 v12002 (decide (((List.length a0.data : Nat) : Int) = 0)) 2 _ h)
        refine seq_to hj (.one ⟨_, .done _, [], [(1000002500, 1000)], ?_⟩)
        clear hj
        try simp only [go_sem]
      · replace h := ifF (c := (decide (a0.kind = 3))) hb4 h
        try simp only [go_sem]
        refine cond_i (fun hb5 => ?_) (fun hb5 => ?_)
        · replace h := ifT (c := (decide (a0.kind = 4))) hb5 h
          try simp only [go_sem]
          have hj := posF_to rfl rfl (i_validCoreNode_j1_ok a0 (decide (a0.kind = 4)) _ h)
          refine seq_to hj (.one ⟨_, .done _, [], [(1000000500, 1000)], ?_⟩)
          clear hj
          try simp only [go_sem]
        · replace h := ifF (c := (decide (a0.kind = 4))) hb5 h
          try simp only [go_sem]
          have hj := posF_to rfl rfl (i_validCoreNode_j1_ok a0 (decide (a0.kind = 6)) _ h)
          refine seq_to hj (.one ⟨_, .done _, [], [(1000000500, 1000)], ?_⟩)
          clear hj
          try simp only [go_sem]
theorem i_coreShape_all (n : Nat) : (∀ (a0 : Core) (r : Int × Int × Bool), i_coreShape n a0 = some r → AC Try.prog 68 [.agg (Core.avs a0)] (.tup [.int .i64 r.1, .int .i64 r.2.1, .bool r.2.2])) ∧
    (∀ (a0 : Core) (p0_0 : Int) (p0_1 : Int) (p0_2 : Int) (r : Int × Int × Bool), i_coreShape_l1 n a0 p0_0 p0_1 p0_2 = some r → posF Try.prog Try.f68 [1, 1, 1, 0, 1, 0] (.tup [.int .i64 r.1, .int .i64 r.2.1, .bool r.2.2]) ⟨[(2, .int .i64 p0_0), (3, .int .i64 p0_1), (14, .ro (List.map Core.ds a0.kids)), (15, .int .i64 ((List.length a0.kids : Nat) : Int)), (16, .int .i64 p0_2)], [], []⟩) := by
  induction n with
  | zero => exact ⟨(fun _ _ h => by rw [i_coreShape] at h; cases h), (fun _ _ _ _ _ h => by rw [i_coreShape_l1] at h; cases h)⟩
  | succ n ih =>
    obtain ⟨ih0, ih1⟩ := ih
    refine ⟨?_, ?_⟩
    · intro a0 r h
      rw [i_coreShape] at h
      refine ac_fn mixed Try.func68 rfl rfl rfl (by kernel_rfl) (by kernel_rfl) ?_
      try simp only [go_sem]
      replace h := bindE h
      obtain ⟨v2001, hv2001, h⟩ := h
      refine call_i (i_validCoreNode_ok _ _ hv2001) ?_
      try simp only [go_sem]
      refine seq_go ?_
      try simp only [go_sem]
      refine cond_i (fun hb1 => ?_) (fun hb1 => ?_)
      · replace h := ifT (c := (!v2001)) hb1 h
        try simp only [go_sem]
        replace h := Option.some.inj h
        obtain rfl := h
        simp only [go_sem]
      · replace h := ifF (c := (!v2001)) hb1 h
        try simp only [go_sem]
        refine seq_go ?_
        try simp only [go_sem]
        have hj := posF_to rfl rfl (ih1 a0 1 1 0 _ h)
        refine loop_to hj (.one ⟨_, .done _, [], [], ?_⟩)
        clear hj
        try simp only [go_sem]
    · intro a0 p0_0 p0_1 p0_2 r h
      rw [i_coreShape_l1] at h
      refine posF_of rfl rfl ?_
      try simp only [go_sem]
      refine loop_i ?_
      try simp only [go_sem]
      refine cond_i (fun hb2 => ?_) (fun hb2 => ?_)
      · replace h := ifT (c := (decide (p0_2 < ((List.length a0.kids : Nat) : Int)))) hb2 h
        try simp only [go_sem]
        refine seq_go ?_
        try simp only [go_sem]
        replace h := bindE h
        obtain ⟨v7000, hv7000, h⟩ := h
        refine idx_m hv7000 (Core.ds_len _) ?_
        try simp only [go_sem]
        refine seq_go ?_
        try simp only [go_sem]
        replace h := bindE h
        obtain ⟨v8001, hv8001, h⟩ := h
        refine call_i (ih0 _ _ hv8001) ?_
        try simp only [go_sem]
        refine seq_go ?_
        try simp only [go_sem]
        refine cond_i (fun hb3 => ?_) (fun hb3 => ?_)
        · replace h := ifT (c := (!v8001.2.2)) hb3 h
          try simp only [go_sem]
          replace h := Option.some.inj h
          obtain rfl := h
          simp only [go_sem]
        · replace h := ifF (c := (!v8001.2.2)) hb3 h
          try simp only [go_sem]
          refine seq_go ?_
          try simp only [go_sem]
          refine seq_go ?_
          try simp only [go_sem]
          have hj := posF_to rfl rfl (ih1 a0 (if p0_0 < (IntKind.i64.wrap (v8001.1 + 1)) then (IntKind.i64.wrap (v8001.1 + 1)) else p0_0) (IntKind.i64.wrap (p0_1 + v8001.2.1)) (IntKind.i64.wrap (p0_2 + 1)) _ h)
          refine lp_to hj (.one ⟨_, .done _, [], [], ?_⟩)
          clear hj
          try simp only [go_sem]
      · replace h := ifF (c := (decide (p0_2 < ((List.length a0.kids : Nat) : Int)))) hb2 h
        try simp only [go_sem]
        refine seq_go ?_
        try simp only [go_sem]
        replace h := Option.some.inj h
        obtain rfl := h
        simp only [go_sem]
theorem i_coreShape_ok (n : Nat) : (∀ (a0 : Core) (r : Int × Int × Bool), i_coreShape n a0 = some r → AC Try.prog 68 [.agg (Core.avs a0)] (.tup [.int .i64 r.1, .int .i64 r.2.1, .bool r.2.2])) := (i_coreShape_all n).1
theorem i_coreShape_l1_ok (n : Nat) : (∀ (a0 : Core) (p0_0 : Int) (p0_1 : Int) (p0_2 : Int) (r : Int × Int × Bool), i_coreShape_l1 n a0 p0_0 p0_1 p0_2 = some r → posF Try.prog Try.f68 [1, 1, 1, 0, 1, 0] (.tup [.int .i64 r.1, .int .i64 r.2.1, .bool r.2.2]) ⟨[(2, .int .i64 p0_0), (3, .int .i64 p0_1), (14, .ro (List.map Core.ds a0.kids)), (15, .int .i64 ((List.length a0.kids : Nat) : Int)), (16, .int .i64 p0_2)], [], []⟩) := (i_coreShape_all n).2

theorem i_coreExtent_all (n : Nat) : (∀ (a0 : Core) (r : Int × Int), i_coreExtent n a0 = some r → AC Try.prog 63 [.agg (Core.avs a0)] (.tup [.int .i64 r.1, .int .i64 r.2])) ∧
    (∀ (a0 : Core) (p0_0 : Int) (p0_1 : Int) (p0_2 : Int) (r : Int × Int), i_coreExtent_l1 n a0 p0_0 p0_1 p0_2 = some r → posF Try.prog Try.f63 [1, 1, 0, 1, 0] (.tup [.int .i64 r.1, .int .i64 r.2]) ⟨[(2, .int .i64 p0_0), (3, .int .i64 p0_1), (9, .ro (List.map Core.ds a0.kids)), (10, .int .i64 ((List.length a0.kids : Nat) : Int)), (11, .int .i64 p0_2)], [], []⟩) := by
  induction n with
  | zero => exact ⟨(fun _ _ h => by rw [i_coreExtent] at h; cases h), (fun _ _ _ _ _ h => by rw [i_coreExtent_l1] at h; cases h)⟩
  | succ n ih =>
    obtain ⟨ih0, ih1⟩ := ih
    refine ⟨?_, ?_⟩
    · intro a0 r h
      rw [i_coreExtent] at h
      refine ac_fn mixed Try.func63 rfl rfl rfl (by kernel_rfl) (by kernel_rfl) ?_
      try simp only [go_sem]
      have hj := posF_to rfl rfl (ih1 a0 1 1 0 _ h)
      refine loop_to hj (.one ⟨_, .done _, [], [], ?_⟩)
      clear hj
      try simp only [go_sem]
    · intro a0 p0_0 p0_1 p0_2 r h
      rw [i_coreExtent_l1] at h
      refine posF_of rfl rfl ?_
      try simp only [go_sem]
      refine loop_i ?_
      try simp only [go_sem]
      refine cond_i (fun hb1 => ?_) (fun hb1 => ?_)
      · replace h := ifT (c := (decide (p0_2 < ((List.length a0.kids : Nat) : Int)))) hb1 h
        try simp only [go_sem]
        refine seq_go ?_
        try simp only [go_sem]
        replace h := bindE h
        obtain ⟨v5000, hv5000, h⟩ := h
        refine idx_m hv5000 (Core.ds_len _) ?_
        try simp only [go_sem]
        refine seq_go ?_
        try simp only [go_sem]
        replace h := bindE h
        obtain ⟨v6001, hv6001, h⟩ := h
        refine call_i (ih0 _ _ hv6001) ?_
        try simp only [go_sem]
        refine seq_go ?_
        try simp only [go_sem]
        refine seq_go ?_
        try simp only [go_sem]
        have hj := posF_to rfl rfl (ih1 a0 (if p0_0 < (IntKind.i64.wrap (v6001.1 + 1)) then (IntKind.i64.wrap (v6001.1 + 1)) else p0_0) (IntKind.i64.wrap (p0_1 + v6001.2)) (IntKind.i64.wrap (p0_2 + 1)) _ h)
        refine lp_to hj (.one ⟨_, .done _, [], [], ?_⟩)
        clear hj
        try simp only [go_sem]
      · replace h := ifF (c := (decide (p0_2 < ((List.length a0.kids : Nat) : Int)))) hb1 h
        try simp only [go_sem]
        refine seq_go ?_
        try simp only [go_sem]
        replace h := Option.some.inj h
        obtain rfl := h
        simp only [go_sem]
theorem i_coreExtent_ok (n : Nat) : (∀ (a0 : Core) (r : Int × Int), i_coreExtent n a0 = some r → AC Try.prog 63 [.agg (Core.avs a0)] (.tup [.int .i64 r.1, .int .i64 r.2])) := (i_coreExtent_all n).1
theorem i_coreExtent_l1_ok (n : Nat) : (∀ (a0 : Core) (p0_0 : Int) (p0_1 : Int) (p0_2 : Int) (r : Int × Int), i_coreExtent_l1 n a0 p0_0 p0_1 p0_2 = some r → posF Try.prog Try.f63 [1, 1, 0, 1, 0] (.tup [.int .i64 r.1, .int .i64 r.2]) ⟨[(2, .int .i64 p0_0), (3, .int .i64 p0_1), (9, .ro (List.map Core.ds a0.kids)), (10, .int .i64 ((List.length a0.kids : Nat) : Int)), (11, .int .i64 p0_2)], [], []⟩) := (i_coreExtent_all n).2

theorem i_coreFits_ok (a0 : Core) (r : Bool) (h : i_coreFits a0 = some r) : AC Try.prog 69 [.agg (Core.avs a0)] (.bool r) := by
  unfold i_coreFits at h
  refine ac_fn mixed Try.func69 rfl rfl rfl (by kernel_rfl) (by kernel_rfl) ?_
  try simp only [go_sem]
  replace h := bindE h
  obtain ⟨v2001, hv2001, h⟩ := h
  refine call_i (i_coreExtent_ok fuel _ _ hv2001) ?_
  try simp only [go_sem]
  refine seq_go ?_
  try simp only [go_sem]
  refine cond_i (fun hb1 => ?_) (fun hb1 => ?_)
  · replace h := ifT (c := (decide (v2001.1 ≤ 80))) hb1 h
    try simp only [go_sem]
    refine seq_go ?_
    try simp only [go_sem]
    replace h := Option.some.inj h
    obtain rfl := h
    simp only [go_sem]
  · replace h := ifF (c := (decide (v2001.1 ≤ 80))) hb1 h
    try simp only [go_sem]
    refine seq_go ?_
    try simp only [go_sem]
    replace h := Option.some.inj h
    obtain rfl := h
    simp only [go_sem]
theorem i_ValidCore_ok (a0 : Core) (r : Bool) (h : i_ValidCore a0 = some r) : AC Try.prog 59 [.agg (Core.avs a0)] (.bool r) := by
  unfold i_ValidCore at h
  refine ac_fn mixed Try.func59 rfl rfl rfl (by kernel_rfl) (by kernel_rfl) ?_
  try simp only [go_sem]
  replace h := bindE h
  obtain ⟨v2001, hv2001, h⟩ := h
  refine call_i (i_coreShape_ok fuel _ _ hv2001) ?_
  try simp only [go_sem]
  refine seq_go ?_
  try simp only [go_sem]
  refine cond_i (fun hb1 => ?_) (fun hb1 => ?_)
  · replace h := ifT (c := v2001.2.2) hb1 h
    try simp only [go_sem]
    replace h := bindE h
    obtain ⟨v3003, hv3003, h⟩ := h
    refine call_i (i_coreFits_ok _ _ hv3003) ?_
    try simp only [go_sem]
    refine seq_go ?_
    try simp only [go_sem]
    replace h := Option.some.inj h
    obtain rfl := h
    simp only [go_sem]
  · replace h := ifF (c := v2001.2.2) hb1 h
    try simp only [go_sem]
    refine seq_go ?_
    try simp only [go_sem]
    replace h := Option.some.inj h
    obtain rfl := h
    simp only [go_sem]
theorem i_truth_ok (a0 : Bool) (r : Int) (h : i_truth a0 = some r) : AC Try.prog 77 [.bool a0] (.int .i64 r) := by
  unfold i_truth at h
  refine ac_fn mixed Try.func77 rfl rfl rfl (by kernel_rfl) (by kernel_rfl) ?_
  try simp only [go_sem]
  refine cond_i (fun hb1 => ?_) (fun hb1 => ?_)
  · replace h := ifT (c := a0) hb1 h
    try simp only [go_sem]
    replace h := Option.some.inj h
    obtain rfl := h
    simp only [go_sem]
  · replace h := ifF (c := a0) hb1 h
    try simp only [go_sem]
    refine seq_go ?_
    try simp only [go_sem]
    replace h := Option.some.inj h
    obtain rfl := h
    simp only [go_sem]
theorem i_Core_binds_ok (a0 : Core) (a1 : Int) (r : Int) (h : i_Core_binds a0 a1 = some r) : AC Try.prog 70 [.agg (Core.avs a0), .int .i64 a1] (.int .i64 r) := by
  unfold i_Core_binds at h
  refine ac_fn mixed Try.func70 rfl rfl rfl (by kernel_rfl) (by kernel_rfl) ?_
  try simp only [go_sem]
  refine cond_i (fun hb1 => ?_) (fun hb1 => ?_)
  · replace h := ifT (c := (decide (a0.kind = 4))) hb1 h
    try simp only [go_sem]
    replace h := bindE h
    obtain ⟨v2012, hv2012, h⟩ := h
    refine call_i (i_truth_ok _ _ hv2012) ?_
    try simp only [go_sem]
    refine seq_go ?_
    try simp only [go_sem]
    replace h := Option.some.inj h
    obtain rfl := h
    simp only [go_sem]
  · replace h := ifF (c := (decide (a0.kind = 4))) hb1 h
    try simp only [go_sem]
    refine cond_i (fun hb2 => ?_) (fun hb2 => ?_)
    · replace h := ifT (c := (decide (a0.kind = 7))) hb2 h
      try simp only [go_sem]
      replace h := bindE h
      obtain ⟨v2012, hv2012, h⟩ := h
      refine call_i (i_truth_ok _ _ hv2012) ?_
      try simp only [go_sem]
      refine seq_go ?_
      try simp only [go_sem]
      replace h := Option.some.inj h
      obtain rfl := h
      simp only [go_sem]
    · replace h := ifF (c := (decide (a0.kind = 7))) hb2 h
      try simp only [go_sem]
      replace h := bindE h
      obtain ⟨v2012, hv2012, h⟩ := h
      refine call_i (i_truth_ok _ _ hv2012) ?_
      try simp only [go_sem]
      refine seq_go ?_
      try simp only [go_sem]
      replace h := Option.some.inj h
      obtain rfl := h
      simp only [go_sem]
theorem i_closedBelow_all (n : Nat) : (∀ (a0 : Core) (a1 : Int) (r : Bool), i_closedBelow n a0 a1 = some r → AC Try.prog 60 [.agg (Core.avs a0), .int .i64 a1] (.bool r)) ∧
    (∀ (a0 : Core) (a1 : Int) (p0_0 : Bool) (r : Bool), i_closedBelow_j1 n a0 a1 p0_0 = some r → posF Try.prog Try.f60 [1, 0, 1] (.bool r) ⟨[(1, .int .i64 a1), (2, .box 1000000500 0), (15, .bool p0_0)], [], [(1000000500, some [.int .i64 a0.kind, .int .i64 a0.value, .ro (List.map i64D a0.data), .ro (List.map Core.ds a0.kids)])]⟩) ∧
    (∀ (a0 : Core) (a1 : Int) (p2_0 : Int) (r : Bool), i_closedBelow_l3 n a0 a1 p2_0 = some r → posF Try.prog Try.f60 [1, 1, 0, 1, 0] (.bool r) ⟨[(1, .int .i64 a1), (2, .box 1000002500 0), (17, .ro (List.map Core.ds a0.kids)), (18, .int .i64 ((List.length a0.kids : Nat) : Int)), (19, .int .i64 p2_0)], [], [(1000002500, some [.int .i64 a0.kind, .int .i64 a0.value, .ro (List.map i64D a0.data), .ro (List.map Core.ds a0.kids)])]⟩) := by
  induction n with
  | zero => exact ⟨(fun _ _ _ h => by rw [i_closedBelow] at h; cases h), (fun _ _ _ _ h => by rw [i_closedBelow_j1] at h; cases h), (fun _ _ _ _ h => by rw [i_closedBelow_l3] at h; cases h)⟩
  | succ n ih =>
    obtain ⟨ih0, ih1, ih2⟩ := ih
    refine ⟨?_, ?_, ?_⟩
    · intro a0 a1 r h
      rw [i_closedBelow] at h
      refine ac_fn mixed Try.func60 rfl rfl rfl (by kernel_rfl) (by kernel_rfl) ?_
      try simp only [go_sem]
      refine cond_i (fun hb1 => ?_) (fun hb1 => ?_)
      · replace h := ifT (c := (decide (a0.kind = 1))) hb1 h
        try simp only [go_sem]
        have hj := posF_to rfl rfl (ih1 a0 a1 (decide (a1 ≤ a0.value)) _ h)
        refine seq_to hj (.one ⟨_, .done _, [], [(1000000500, 1000)], ?_⟩)
        clear hj
        try simp only [go_sem]
      · replace h := ifF (c := (decide (a0.kind = 1))) hb1 h
        try simp only [go_sem]
        have hj := posF_to rfl rfl (ih1 a0 a1 false _ h)
        refine seq_to hj (.one ⟨_, .done _, [], [(1000000500, 1000)], ?_⟩)
        clear hj
        try simp only [go_sem]
    · intro a0 a1 p0_0 r h
      rw [i_closedBelow_j1] at h
      refine posF_of rfl rfl ?_
      try simp only [go_sem]
      refine cond_i (fun hb2 => ?_) (fun hb2 => ?_)
      · replace h := ifT (c := p0_0) hb2 h
        try simp only [go_sem]
        replace h := Option.some.inj h
        obtain rfl := h
        simp only [go_sem]
      · replace h := ifF (c := p0_0) hb2 h
        try simp only [go_sem]
        refine seq_go ?_
        try simp only [go_sem]
        have hj := posF_to rfl rfl (ih2 a0 a1 0 _ h)
        refine loop_to hj (.one ⟨_, .done _, [], [(1000002500, 1000000500)], ?_⟩)
        clear hj
        try simp only [go_sem]
    · intro a0 a1 p2_0 r h
      rw [i_closedBelow_l3] at h
      refine posF_of rfl rfl ?_
      try simp only [go_sem]
      refine loop_i ?_
      try simp only [go_sem]
      refine cond_i (fun hb3 => ?_) (fun hb3 => ?_)
      · replace h := ifT (c := (decide (p2_0 < ((List.length a0.kids : Nat) : Int)))) hb3 h
        try simp only [go_sem]
        refine seq_go ?_
        try simp only [go_sem]
        replace h := bindE h
        obtain ⟨v6001, hv6001, h⟩ := h
        refine idx_m hv6001 (Core.ds_len _) ?_
        try simp only [go_sem]
        refine seq_go ?_
        try simp only [go_sem]
        refine draw_i [] .fin (by kernel_rfl) ?_
        try simp only [go_sem]
        replace h := bindE h
        obtain ⟨v7004, hv7004, h⟩ := h
        refine call_i (i_Core_binds_ok _ _ _ hv7004) ?_
        try simp only [go_sem]
        replace h := bindE h
        obtain ⟨v7006, hv7006, h⟩ := h
        refine call_i (ih0 _ _ _ hv7006) ?_
        try simp only [go_sem]
        refine seq_go ?_
        try simp only [go_sem]
        refine cond_i (fun hb4 => ?_) (fun hb4 => ?_)
        · replace h := ifT (c := (!v7006)) hb4 h
          try simp only [go_sem]
          replace h := Option.some.inj h
          obtain rfl := h
          simp only [go_sem]
        · replace h := ifF (c := (!v7006)) hb4 h
          try simp only [go_sem]
          refine seq_go ?_
          try simp only [go_sem]
          have hj := posF_to rfl rfl (ih2 a0 a1 (IntKind.i64.wrap (p2_0 + 1)) _ h)
          refine lp_to hj (.one ⟨_, .done _, [], [(1000002500, 1000002500)], ?_⟩)
          clear hj
          try simp only [go_sem]
      · replace h := ifF (c := (decide (p2_0 < ((List.length a0.kids : Nat) : Int)))) hb3 h
        try simp only [go_sem]
        refine seq_go ?_
        try simp only [go_sem]
        replace h := Option.some.inj h
        obtain rfl := h
        simp only [go_sem]
theorem i_closedBelow_ok (n : Nat) : (∀ (a0 : Core) (a1 : Int) (r : Bool), i_closedBelow n a0 a1 = some r → AC Try.prog 60 [.agg (Core.avs a0), .int .i64 a1] (.bool r)) := (i_closedBelow_all n).1
theorem i_closedBelow_j1_ok (n : Nat) : (∀ (a0 : Core) (a1 : Int) (p0_0 : Bool) (r : Bool), i_closedBelow_j1 n a0 a1 p0_0 = some r → posF Try.prog Try.f60 [1, 0, 1] (.bool r) ⟨[(1, .int .i64 a1), (2, .box 1000000500 0), (15, .bool p0_0)], [], [(1000000500, some [.int .i64 a0.kind, .int .i64 a0.value, .ro (List.map i64D a0.data), .ro (List.map Core.ds a0.kids)])]⟩) := (i_closedBelow_all n).2.1
theorem i_closedBelow_l3_ok (n : Nat) : (∀ (a0 : Core) (a1 : Int) (p2_0 : Int) (r : Bool), i_closedBelow_l3 n a0 a1 p2_0 = some r → posF Try.prog Try.f60 [1, 1, 0, 1, 0] (.bool r) ⟨[(1, .int .i64 a1), (2, .box 1000002500 0), (17, .ro (List.map Core.ds a0.kids)), (18, .int .i64 ((List.length a0.kids : Nat) : Int)), (19, .int .i64 p2_0)], [], [(1000002500, some [.int .i64 a0.kind, .int .i64 a0.value, .ro (List.map i64D a0.data), .ro (List.map Core.ds a0.kids)])]⟩) := (i_closedBelow_all n).2.2

theorem i_IsClosed_ok (a0 : Core) (r : Bool) (h : i_IsClosed a0 = some r) : AC Try.prog 45 [.agg (Core.avs a0)] (.bool r) := by
  unfold i_IsClosed at h
  refine ac_fn mixed Try.func45 rfl rfl rfl (by kernel_rfl) (by kernel_rfl) ?_
  try simp only [go_sem]
  replace h := bindE h
  obtain ⟨v2001, hv2001, h⟩ := h
  refine call_i (i_ValidCore_ok _ _ hv2001) ?_
  try simp only [go_sem]
  refine cond_i (fun hb1 => ?_) (fun hb1 => ?_)
  · replace h := ifT (c := v2001) hb1 h
    try simp only [go_sem]
    replace h := bindE h
    obtain ⟨v2004, hv2004, h⟩ := h
    refine call_i (i_closedBelow_ok fuel _ _ _ hv2004) ?_
    try simp only [go_sem]
    refine seq_go ?_
    try simp only [go_sem]
    replace h := Option.some.inj h
    obtain rfl := h
    simp only [go_sem]
  · replace h := ifF (c := v2001) hb1 h
    try simp only [go_sem]
    refine seq_go ?_
    try simp only [go_sem]
    replace h := Option.some.inj h
    obtain rfl := h
    simp only [go_sem]
theorem g_IndexFunc_simpl_Core_l1_all (n : Nat) : (∀ (a0 : List Core) (p0_0 : Int) (f1 : (Core → Option Bool)) (g1 : FuncId) (c1 : List AV) (s1 : Still c1) (h1 : ∀ (y0 : Core) (q : Bool), f1 y0 = some q → AC Try.prog g1 (.agg (Core.avs y0) :: c1) (.bool q)) (r : Int), g_IndexFunc_simpl_Core_l1 n a0 p0_0 f1 = some r → posF Try.prog Try.f78 [1, 0, 1, 0] (.int .i64 r) ⟨[(0, .ro (List.map Core.ds a0)), (1, .fn g1 c1), (7, .int .i64 ((List.length a0 : Nat) : Int)), (8, .int .i64 p0_0)], [], []⟩) := by
  induction n with
  | zero => exact ((fun _ _ _ _ _ _ _ _ h => by rw [g_IndexFunc_simpl_Core_l1] at h; cases h))
  | succ n ih =>
    have ih0 := ih
    · intro a0 p0_0 f1 g1 c1 s1 h1 r h
      rw [g_IndexFunc_simpl_Core_l1] at h
      refine posF_of rfl rfl ?_
      try simp only [go_sem, s1.k, s1.r, s1.c, s1.p]
      refine loop_i ?_
      try simp only [go_sem, s1.k, s1.r, s1.c, s1.p]
      refine cond_i (fun hb1 => ?_) (fun hb1 => ?_)
      · replace h := ifT (c := (decide (p0_0 < ((List.length a0 : Nat) : Int)))) hb1 h
        try simp only [go_sem, s1.k, s1.r, s1.c, s1.p]
        refine seq_go ?_
        try simp only [go_sem, s1.k, s1.r, s1.c, s1.p]
        replace h := bindE h
        obtain ⟨v5003, hv5003, h⟩ := h
        refine idx_m hv5003 (Core.ds_len _) ?_
        try simp only [go_sem, s1.k, s1.r, s1.c, s1.p]
        replace h := bindE h
        obtain ⟨v5005, hv5005, h⟩ := h
        refine call_i (h1 _ _ hv5005) ?_
        try simp only [go_sem, s1.k, s1.r, s1.c, s1.p]
        refine seq_go ?_
        try simp only [go_sem, s1.k, s1.r, s1.c, s1.p]
        refine cond_i (fun hb2 => ?_) (fun hb2 => ?_)
        · replace h := ifT (c := v5005) hb2 h
          try simp only [go_sem, s1.k, s1.r, s1.c, s1.p]
          replace h := Option.some.inj h
          obtain rfl := h
          simp only [go_sem, s1.k, s1.r, s1.c, s1.p]
        · replace h := ifF (c := v5005) hb2 h
          try simp only [go_sem, s1.k, s1.r, s1.c, s1.p]
          refine seq_go ?_
          try simp only [go_sem, s1.k, s1.r, s1.c, s1.p]
          have hj := posF_to rfl rfl (ih0 a0 (IntKind.i64.wrap (p0_0 + 1)) f1 g1 c1 s1 h1 _ h)
          refine lp_to hj (.one ⟨_, .done _, [], [], ?_⟩)
          clear hj
          try simp only [go_sem, s1.k, s1.r, s1.c, s1.p]
      · replace h := ifF (c := (decide (p0_0 < ((List.length a0 : Nat) : Int)))) hb1 h
        try simp only [go_sem, s1.k, s1.r, s1.c, s1.p]
        refine seq_go ?_
        try simp only [go_sem, s1.k, s1.r, s1.c, s1.p]
        replace h := Option.some.inj h
        obtain rfl := h
        simp only [go_sem, s1.k, s1.r, s1.c, s1.p]
theorem g_IndexFunc_simpl_Core_l1_ok (n : Nat) : (∀ (a0 : List Core) (p0_0 : Int) (f1 : (Core → Option Bool)) (g1 : FuncId) (c1 : List AV) (s1 : Still c1) (h1 : ∀ (y0 : Core) (q : Bool), f1 y0 = some q → AC Try.prog g1 (.agg (Core.avs y0) :: c1) (.bool q)) (r : Int), g_IndexFunc_simpl_Core_l1 n a0 p0_0 f1 = some r → posF Try.prog Try.f78 [1, 0, 1, 0] (.int .i64 r) ⟨[(0, .ro (List.map Core.ds a0)), (1, .fn g1 c1), (7, .int .i64 ((List.length a0 : Nat) : Int)), (8, .int .i64 p0_0)], [], []⟩) := (g_IndexFunc_simpl_Core_l1_all n)

theorem g_IndexFunc_simpl_Core_ok (a0 : List Core) (f1 : (Core → Option Bool)) (g1 : FuncId) (c1 : List AV) (s1 : Still c1) (h1 : ∀ (y0 : Core) (q : Bool), f1 y0 = some q → AC Try.prog g1 (.agg (Core.avs y0) :: c1) (.bool q)) (r : Int) (h : g_IndexFunc_simpl_Core a0 f1 = some r) : AC Try.prog 78 [.ro (List.map Core.ds a0), .fn g1 c1] (.int .i64 r) := by
  unfold g_IndexFunc_simpl_Core at h
  refine ac_fn mixed Try.func78 rfl rfl rfl (by kernel_rfl) (by kernel_rfl) ?_
  try simp only [go_sem, s1.k, s1.r, s1.c, s1.p]
  have hj := posF_to rfl rfl (g_IndexFunc_simpl_Core_l1_ok fuel a0 0 f1 g1 c1 s1 h1 _ h)
  refine loop_to hj (.one ⟨_, .done _, [], [], ?_⟩)
  clear hj
  try simp only [go_sem, s1.k, s1.r, s1.c, s1.p]
theorem g_ContainsFunc_simpl_Core_ok (a0 : List Core) (f1 : (Core → Option Bool)) (g1 : FuncId) (c1 : List AV) (s1 : Still c1) (h1 : ∀ (y0 : Core) (q : Bool), f1 y0 = some q → AC Try.prog g1 (.agg (Core.avs y0) :: c1) (.bool q)) (r : Bool) (h : g_ContainsFunc_simpl_Core a0 f1 = some r) : AC Try.prog 71 [.ro (List.map Core.ds a0), .fn g1 c1] (.bool r) := by
  unfold g_ContainsFunc_simpl_Core at h
  refine ac_fn mixed Try.func71 rfl rfl rfl (by kernel_rfl) (by kernel_rfl) ?_
  try simp only [go_sem, s1.k, s1.r, s1.c, s1.p]
  replace h := bindE h
  obtain ⟨v2002, hv2002, h⟩ := h
  refine call_i (g_IndexFunc_simpl_Core_ok _ _ g1 c1 s1 h1 _ hv2002) ?_
  try simp only [go_sem, s1.k, s1.r, s1.c, s1.p]
  refine seq_go ?_
  try simp only [go_sem, s1.k, s1.r, s1.c, s1.p]
  replace h := Option.some.inj h
  obtain rfl := h
  simp only [go_sem, s1.k, s1.r, s1.c, s1.p]
theorem i_anyCore_1_all (n : Nat) : (∀ (a0 : Core) (f1 : (Core → Option Bool)) (g1 : FuncId) (c1 : List AV) (s1 : Still c1) (h1 : ∀ (y0 : Core) (q : Bool), f1 y0 = some q → AC Try.prog g1 (.agg (Core.avs y0) :: c1) (.bool q)) (r : Bool), i_anyCore_1 n a0 f1 = some r → AC Try.prog 72 [.agg (Core.avs a0), .rop [.fn g1 c1] 0] (.bool r)) ∧
    (∀ (a0 : Core) (f1 : (Core → Option Bool)) (g1 : FuncId) (c1 : List AV) (s1 : Still c1) (h1 : ∀ (y0 : Core) (q : Bool), f1 y0 = some q → AC Try.prog g1 (.agg (Core.avs y0) :: c1) (.bool q)) (r : Bool), i_anyCore n a0 f1 = some r → AC Try.prog 61 [.agg (Core.avs a0), .fn g1 c1] (.bool r)) := by
  induction n with
  | zero => exact ⟨(fun _ _ _ _ _ _ _ h => by rw [i_anyCore_1] at h; cases h), (fun _ _ _ _ _ _ _ h => by rw [i_anyCore] at h; cases h)⟩
  | succ n ih =>
    obtain ⟨ih0, ih1⟩ := ih
    refine ⟨?_, ?_⟩
    · intro a0 f1 g1 c1 s1 h1 r h
      rw [i_anyCore_1] at h
      refine ac_fn mixed Try.func72 rfl rfl rfl (by kernel_rfl) (by kernel_rfl) ?_
      try simp only [go_sem, s1.k, s1.r, s1.c, s1.p]
      replace h := bindE h
      obtain ⟨v2002, hv2002, h⟩ := h
      refine call_i (ih1 _ _ g1 c1 s1 h1 _ hv2002) ?_
      try simp only [go_sem, s1.k, s1.r, s1.c, s1.p]
      refine seq_go ?_
      try simp only [go_sem, s1.k, s1.r, s1.c, s1.p]
      replace h := Option.some.inj h
      obtain rfl := h
      simp only [go_sem, s1.k, s1.r, s1.c, s1.p]
    · intro a0 f1 g1 c1 s1 h1 r h
      rw [i_anyCore] at h
      refine ac_fn mixed Try.func61 rfl rfl rfl (by kernel_rfl) (by kernel_rfl) ?_
      try simp only [go_sem, s1.k, s1.r, s1.c, s1.p]
      replace h := bindE h
      obtain ⟨v2002, hv2002, h⟩ := h
      refine call_i (h1 _ _ hv2002) ?_
      try simp only [go_sem, s1.k, s1.r, s1.c, s1.p]
      refine cond_i (fun hb1 => ?_) (fun hb1 => ?_)
      · replace h := ifT (c := v2002) hb1 h
        try simp only [go_sem, s1.k, s1.r, s1.c, s1.p]
        refine seq_go ?_
        try simp only [go_sem, s1.k, s1.r, s1.c, s1.p]
        replace h := Option.some.inj h
        obtain rfl := h
        simp only [go_sem, s1.k, s1.r, s1.c, s1.p]
      · replace h := ifF (c := v2002) hb1 h
        try simp only [go_sem, s1.k, s1.r, s1.c, s1.p]
        replace h := bindE h
        obtain ⟨v2007, hv2007, h⟩ := h
        refine call_i (g_ContainsFunc_simpl_Core_ok _ _ 72 [.rop [.fn g1 c1] 0] (Still.of (by simp only [pureAs, pureA, Bool.and_true, Bool.true_and, Bool.and_self, s1.p])) (fun y0 q hq => ih0 y0 _ g1 c1 s1 h1 q hq) _ hv2007) ?_
        try simp only [go_sem, s1.k, s1.r, s1.c, s1.p]
        refine seq_go ?_
        try simp only [go_sem, s1.k, s1.r, s1.c, s1.p]
        replace h := Option.some.inj h
        obtain rfl := h
        simp only [go_sem, s1.k, s1.r, s1.c, s1.p]
theorem i_anyCore_1_ok (n : Nat) : (∀ (a0 : Core) (f1 : (Core → Option Bool)) (g1 : FuncId) (c1 : List AV) (s1 : Still c1) (h1 : ∀ (y0 : Core) (q : Bool), f1 y0 = some q → AC Try.prog g1 (.agg (Core.avs y0) :: c1) (.bool q)) (r : Bool), i_anyCore_1 n a0 f1 = some r → AC Try.prog 72 [.agg (Core.avs a0), .rop [.fn g1 c1] 0] (.bool r)) := (i_anyCore_1_all n).1
theorem i_anyCore_ok (n : Nat) : (∀ (a0 : Core) (f1 : (Core → Option Bool)) (g1 : FuncId) (c1 : List AV) (s1 : Still c1) (h1 : ∀ (y0 : Core) (q : Bool), f1 y0 = some q → AC Try.prog g1 (.agg (Core.avs y0) :: c1) (.bool q)) (r : Bool), i_anyCore n a0 f1 = some r → AC Try.prog 61 [.agg (Core.avs a0), .fn g1 c1] (.bool r)) := (i_anyCore_1_all n).2

theorem i_IsErased_1_ok (a0 : Core) (r : Bool) (h : i_IsErased_1 a0 = some r) : AC Try.prog 62 [.agg (Core.avs a0)] (.bool r) := by
  unfold i_IsErased_1 at h
  refine ac_fn mixed Try.func62 rfl rfl rfl (by kernel_rfl) (by kernel_rfl) ?_
  try simp only [go_sem]
  refine cond_i (fun hb1 => ?_) (fun hb1 => ?_)
  · replace h := ifT (c := (decide (a0.kind = 6))) hb1 h
    try simp only [go_sem]
    refine seq_go ?_
    try simp only [go_sem]
    replace h := Option.some.inj h
    obtain rfl := h
    simp only [go_sem]
  · replace h := ifF (c := (decide (a0.kind = 6))) hb1 h
    try simp only [go_sem]
    refine seq_go ?_
    try simp only [go_sem]
    replace h := Option.some.inj h
    obtain rfl := h
    simp only [go_sem]
theorem i_IsErased_ok (a0 : Core) (r : Bool) (h : i_IsErased a0 = some r) : AC Try.prog 46 [.agg (Core.avs a0)] (.bool r) := by
  unfold i_IsErased at h
  refine ac_fn mixed Try.func46 rfl rfl rfl (by kernel_rfl) (by kernel_rfl) ?_
  try simp only [go_sem]
  replace h := bindE h
  obtain ⟨v2001, hv2001, h⟩ := h
  refine call_i (i_ValidCore_ok _ _ hv2001) ?_
  try simp only [go_sem]
  refine cond_i (fun hb1 => ?_) (fun hb1 => ?_)
  · replace h := ifT (c := v2001) hb1 h
    try simp only [go_sem]
    replace h := bindE h
    obtain ⟨v2004, hv2004, h⟩ := h
    refine call_i (i_anyCore_ok fuel _ _ 62 [] (Still.of rfl) (fun y0 q hq => i_IsErased_1_ok y0  q hq) _ hv2004) ?_
    try simp only [go_sem]
    refine seq_go ?_
    try simp only [go_sem]
    replace h := Option.some.inj h
    obtain rfl := h
    simp only [go_sem]
  · replace h := ifF (c := v2001) hb1 h
    try simp only [go_sem]
    refine seq_go ?_
    try simp only [go_sem]
    replace h := Option.some.inj h
    obtain rfl := h
    simp only [go_sem]
theorem i_CoreSize_ok (a0 : Core) (r : Int) (h : i_CoreSize a0 = some r) : AC Try.prog 47 [.agg (Core.avs a0)] (.int .i64 r) := by
  unfold i_CoreSize at h
  refine ac_fn mixed Try.func47 rfl rfl rfl (by kernel_rfl) (by kernel_rfl) ?_
  try simp only [go_sem]
  replace h := bindE h
  obtain ⟨v2001, hv2001, h⟩ := h
  refine call_i (i_ValidCore_ok _ _ hv2001) ?_
  try simp only [go_sem]
  refine seq_go ?_
  try simp only [go_sem]
  refine cond_i (fun hb1 => ?_) (fun hb1 => ?_)
  · replace h := ifT (c := (!v2001)) hb1 h
    try simp only [go_sem]
    replace h := Option.some.inj h
    obtain rfl := h
    simp only [go_sem]
  · replace h := ifF (c := (!v2001)) hb1 h
    try simp only [go_sem]
    refine seq_go ?_
    try simp only [go_sem]
    replace h := bindE h
    obtain ⟨v4001, hv4001, h⟩ := h
    refine call_i (i_coreExtent_ok fuel _ _ hv4001) ?_
    try simp only [go_sem]
    refine seq_go ?_
    try simp only [go_sem]
    replace h := Option.some.inj h
    obtain rfl := h
    simp only [go_sem]
theorem g_IndexFunc_sstring_l1_all (n : Nat) : (∀ (a0 : List ByteArray) (p0_0 : Int) (f1 : (ByteArray → Option Bool)) (g1 : FuncId) (c1 : List AV) (s1 : Still c1) (h1 : ∀ (y0 : ByteArray) (q : Bool), f1 y0 = some q → AC Try.prog g1 (.str y0 :: c1) (.bool q)) (r : Int), g_IndexFunc_sstring_l1 n a0 p0_0 f1 = some r → posF Try.prog Try.f73 [1, 0, 1, 0] (.int .i64 r) ⟨[(0, .ro (List.map strD a0)), (1, .fn g1 c1), (7, .int .i64 ((List.length a0 : Nat) : Int)), (8, .int .i64 p0_0)], [], []⟩) := by
  induction n with
  | zero => exact ((fun _ _ _ _ _ _ _ _ h => by rw [g_IndexFunc_sstring_l1] at h; cases h))
  | succ n ih =>
    have ih0 := ih
    · intro a0 p0_0 f1 g1 c1 s1 h1 r h
      rw [g_IndexFunc_sstring_l1] at h
      refine posF_of rfl rfl ?_
      try simp only [go_sem, s1.k, s1.r, s1.c, s1.p]
      refine loop_i ?_
      try simp only [go_sem, s1.k, s1.r, s1.c, s1.p]
      refine cond_i (fun hb1 => ?_) (fun hb1 => ?_)
      · replace h := ifT (c := (decide (p0_0 < ((List.length a0 : Nat) : Int)))) hb1 h
        try simp only [go_sem, s1.k, s1.r, s1.c, s1.p]
        refine seq_go ?_
        try simp only [go_sem, s1.k, s1.r, s1.c, s1.p]
        replace h := bindE h
        obtain ⟨v5003, hv5003, h⟩ := h
        refine idx_m hv5003 rfl ?_
        try simp only [go_sem, s1.k, s1.r, s1.c, s1.p]
        replace h := bindE h
        obtain ⟨v5005, hv5005, h⟩ := h
        refine call_i (h1 _ _ hv5005) ?_
        try simp only [go_sem, s1.k, s1.r, s1.c, s1.p]
        refine seq_go ?_
        try simp only [go_sem, s1.k, s1.r, s1.c, s1.p]
        refine cond_i (fun hb2 => ?_) (fun hb2 => ?_)
        · replace h := ifT (c := v5005) hb2 h
          try simp only [go_sem, s1.k, s1.r, s1.c, s1.p]
          replace h := Option.some.inj h
          obtain rfl := h
          simp only [go_sem, s1.k, s1.r, s1.c, s1.p]
        · replace h := ifF (c := v5005) hb2 h
          try simp only [go_sem, s1.k, s1.r, s1.c, s1.p]
          refine seq_go ?_
          try simp only [go_sem, s1.k, s1.r, s1.c, s1.p]
          have hj := posF_to rfl rfl (ih0 a0 (IntKind.i64.wrap (p0_0 + 1)) f1 g1 c1 s1 h1 _ h)
          refine lp_to hj (.one ⟨_, .done _, [], [], ?_⟩)
          clear hj
          try simp only [go_sem, s1.k, s1.r, s1.c, s1.p]
      · replace h := ifF (c := (decide (p0_0 < ((List.length a0 : Nat) : Int)))) hb1 h
        try simp only [go_sem, s1.k, s1.r, s1.c, s1.p]
        refine seq_go ?_
        try simp only [go_sem, s1.k, s1.r, s1.c, s1.p]
        replace h := Option.some.inj h
        obtain rfl := h
        simp only [go_sem, s1.k, s1.r, s1.c, s1.p]
theorem g_IndexFunc_sstring_l1_ok (n : Nat) : (∀ (a0 : List ByteArray) (p0_0 : Int) (f1 : (ByteArray → Option Bool)) (g1 : FuncId) (c1 : List AV) (s1 : Still c1) (h1 : ∀ (y0 : ByteArray) (q : Bool), f1 y0 = some q → AC Try.prog g1 (.str y0 :: c1) (.bool q)) (r : Int), g_IndexFunc_sstring_l1 n a0 p0_0 f1 = some r → posF Try.prog Try.f73 [1, 0, 1, 0] (.int .i64 r) ⟨[(0, .ro (List.map strD a0)), (1, .fn g1 c1), (7, .int .i64 ((List.length a0 : Nat) : Int)), (8, .int .i64 p0_0)], [], []⟩) := (g_IndexFunc_sstring_l1_all n)

theorem g_IndexFunc_sstring_ok (a0 : List ByteArray) (f1 : (ByteArray → Option Bool)) (g1 : FuncId) (c1 : List AV) (s1 : Still c1) (h1 : ∀ (y0 : ByteArray) (q : Bool), f1 y0 = some q → AC Try.prog g1 (.str y0 :: c1) (.bool q)) (r : Int) (h : g_IndexFunc_sstring a0 f1 = some r) : AC Try.prog 73 [.ro (List.map strD a0), .fn g1 c1] (.int .i64 r) := by
  unfold g_IndexFunc_sstring at h
  refine ac_fn mixed Try.func73 rfl rfl rfl (by kernel_rfl) (by kernel_rfl) ?_
  try simp only [go_sem, s1.k, s1.r, s1.c, s1.p]
  have hj := posF_to rfl rfl (g_IndexFunc_sstring_l1_ok fuel a0 0 f1 g1 c1 s1 h1 _ h)
  refine loop_to hj (.one ⟨_, .done _, [], [], ?_⟩)
  clear hj
  try simp only [go_sem, s1.k, s1.r, s1.c, s1.p]
theorem g_ContainsFunc_sstring_ok (a0 : List ByteArray) (f1 : (ByteArray → Option Bool)) (g1 : FuncId) (c1 : List AV) (s1 : Still c1) (h1 : ∀ (y0 : ByteArray) (q : Bool), f1 y0 = some q → AC Try.prog g1 (.str y0 :: c1) (.bool q)) (r : Bool) (h : g_ContainsFunc_sstring a0 f1 = some r) : AC Try.prog 64 [.ro (List.map strD a0), .fn g1 c1] (.bool r) := by
  unfold g_ContainsFunc_sstring at h
  refine ac_fn mixed Try.func64 rfl rfl rfl (by kernel_rfl) (by kernel_rfl) ?_
  try simp only [go_sem, s1.k, s1.r, s1.c, s1.p]
  replace h := bindE h
  obtain ⟨v2002, hv2002, h⟩ := h
  refine call_i (g_IndexFunc_sstring_ok _ _ g1 c1 s1 h1 _ hv2002) ?_
  try simp only [go_sem, s1.k, s1.r, s1.c, s1.p]
  refine seq_go ?_
  try simp only [go_sem, s1.k, s1.r, s1.c, s1.p]
  replace h := Option.some.inj h
  obtain rfl := h
  simp only [go_sem, s1.k, s1.r, s1.c, s1.p]
theorem i_labelsFit_1_ok (a0 : ByteArray) (r : Bool) (h : i_labelsFit_1 a0 = some r) : AC Try.prog 65 [.str a0] (.bool r) := by
  unfold i_labelsFit_1 at h
  refine ac_fn mixed Try.func65 rfl rfl rfl (by kernel_rfl) (by kernel_rfl) ?_
  try simp only [go_sem]
  replace h := Option.some.inj h
  obtain rfl := h
  simp only [go_sem]
theorem i_labelsFit_ok (a0 : List ByteArray) (r : Bool) (h : i_labelsFit a0 = some r) : AC Try.prog 48 [.ro (List.map strD a0)] (.bool r) := by
  unfold i_labelsFit at h
  refine ac_fn mixed Try.func48 rfl rfl rfl (by kernel_rfl) (by kernel_rfl) ?_
  try simp only [go_sem]
  replace h := bindE h
  obtain ⟨v2001, hv2001, h⟩ := h
  refine call_i (g_ContainsFunc_sstring_ok _ _ 65 [] (Still.of rfl) (fun y0 q hq => i_labelsFit_1_ok y0  q hq) _ hv2001) ?_
  try simp only [go_sem]
  refine seq_go ?_
  try simp only [go_sem]
  replace h := Option.some.inj h
  obtain rfl := h
  simp only [go_sem]
theorem i_ValidLabelled_ok (a0 : Labelled) (r : Bool) (h : i_ValidLabelled a0 = some r) : AC Try.prog 24 [.agg (Labelled.avs a0)] (.bool r) := by
  unfold i_ValidLabelled at h
  refine ac_fn mixed Try.func24 rfl rfl rfl (by kernel_rfl) (by kernel_rfl) ?_
  try simp only [go_sem]
  refine draw_i [] .fin (by kernel_rfl) ?_
  try simp only [go_sem]
  replace h := bindE h
  obtain ⟨v2002, hv2002, h⟩ := h
  refine call_i (i_IsClosed_ok _ _ hv2002) ?_
  try simp only [go_sem]
  refine cond_i (fun hb1 => ?_) (fun hb1 => ?_)
  · replace h := ifT (c := v2002) hb1 h
    try simp only [go_sem]
    replace h := bindE h
    obtain ⟨v2006, hv2006, h⟩ := h
    refine call_i (i_IsErased_ok _ _ hv2006) ?_
    try simp only [go_sem]
    refine cond_i (fun hb2 => ?_) (fun hb2 => ?_)
    · replace h := ifT (c := v2006) hb2 h
      try simp only [go_sem]
      replace h := bindE h
      obtain ⟨v2014, hv2014, h⟩ := h
      refine call_i (i_CoreSize_ok _ _ hv2014) ?_
      try simp only [go_sem]
      refine cond_i (fun hb3 => ?_) (fun hb3 => ?_)
      · replace h := ifT (c := (decide (((List.length a0.labels : Nat) : Int) = v2014))) hb3 h
        try simp only [go_sem]
        replace h := bindE h
        obtain ⟨v2020, hv2020, h⟩ := h
        refine call_i (i_labelsFit_ok _ _ hv2020) ?_
        try simp only [go_sem]
        refine seq_go ?_
        try simp only [go_sem]
        replace h := Option.some.inj h
        obtain rfl := h
        simp only [go_sem]
      · replace h := ifF (c := (decide (((List.length a0.labels : Nat) : Int) = v2014))) hb3 h
        try simp only [go_sem]
        refine seq_go ?_
        try simp only [go_sem]
        replace h := Option.some.inj h
        obtain rfl := h
        simp only [go_sem]
    · replace h := ifF (c := v2006) hb2 h
      try simp only [go_sem]
      refine seq_go ?_
      try simp only [go_sem]
      replace h := Option.some.inj h
      obtain rfl := h
      simp only [go_sem]
  · replace h := ifF (c := v2002) hb1 h
    try simp only [go_sem]
    refine seq_go ?_
    try simp only [go_sem]
    replace h := Option.some.inj h
    obtain rfl := h
    simp only [go_sem]
theorem s_l00In_ok (a0 : Int) (a1 : Int) (a2 : Int) (r : Bool) (h : s_l00In a0 a1 a2 = some r) : AC Try.prog 39 [.int .i64 a0, .int .i64 a1, .int .i64 a2] (.bool r) := by
  unfold s_l00In at h
  refine ac_fn mixed Try.func39 rfl rfl rfl (by kernel_rfl) (by kernel_rfl) ?_
  try simp only [go_sem]
  refine cond_i (fun hb1 => ?_) (fun hb1 => ?_)
  · replace h := ifT (c := (decide (a1 ≤ a0))) hb1 h
    try simp only [go_sem]
    refine seq_go ?_
    try simp only [go_sem]
    replace h := Option.some.inj h
    obtain rfl := h
    simp only [go_sem]
  · replace h := ifF (c := (decide (a1 ≤ a0))) hb1 h
    try simp only [go_sem]
    refine seq_go ?_
    try simp only [go_sem]
    replace h := Option.some.inj h
    obtain rfl := h
    simp only [go_sem]
theorem s_l06Shape_j3_ok (a0 : Int) (p2_0 : Bool) (r : Int × Int × Int × Int) (h : s_l06Shape_j3 a0 p2_0 = some r) : posF Try.prog Try.f74 [1, 0, 1, 0, 1, 1, 1, 1, 1] (.tup [.int .i64 r.1, .int .i64 r.2.1, .int .i64 r.2.2.1, .int .i64 r.2.2.2]) ⟨[(6, .int .i64 a0), (15, .bool p2_0)], [], []⟩ := by
  unfold s_l06Shape_j3 at h
  refine posF_of rfl rfl ?_
  try simp only [go_sem]
  refine cond_i (fun hb8 => ?_) (fun hb8 => ?_)
  · replace h := ifT (c := p2_0) hb8 h
    try simp only [go_sem]
    replace h := Option.some.inj h
    obtain rfl := h
    simp only [go_sem]
  · replace h := ifF (c := p2_0) hb8 h
    try simp only [go_sem]
    refine cond_i (fun hb9 => ?_) (fun hb9 => ?_)
    · replace h := ifT (c := (decide (a0 = 8))) hb9 h
      try simp only [go_sem]
      replace h := Option.some.inj h
      obtain rfl := h
      simp only [go_sem]
    · replace h := ifF (c := (decide (a0 = 8))) hb9 h
      try simp only [go_sem]
      refine cond_i (fun hb10 => ?_) (fun hb10 => ?_)
      · replace h := ifT (c := (decide (a0 = 9))) hb10 h
        try simp only [go_sem]
        replace h := Option.some.inj h
        obtain rfl := h
        simp only [go_sem]
      · replace h := ifF (c := (decide (a0 = 9))) hb10 h
        try simp only [go_sem]
        refine cond_i (fun hb11 => ?_) (fun hb11 => ?_)
        · replace h := ifT (c := (decide (a0 = 10))) hb11 h
          try simp only [go_sem]
          replace h := Option.some.inj h
          obtain rfl := h
          simp only [go_sem]
        · replace h := ifF (c := (decide (a0 = 10))) hb11 h
          try simp only [go_sem]
          refine seq_go ?_
          try simp only [go_sem]
          replace h := Option.some.inj h
          obtain rfl := h
          simp only [go_sem]
theorem s_l06Shape_j2_ok (a0 : Int) (p1_0 : Bool) (r : Int × Int × Int × Int) (h : s_l06Shape_j2 a0 p1_0 = some r) : posF Try.prog Try.f74 [1, 0, 1, 0, 1, 1, 1] (.tup [.int .i64 r.1, .int .i64 r.2.1, .int .i64 r.2.2.1, .int .i64 r.2.2.2]) ⟨[(6, .int .i64 a0), (11, .bool p1_0)], [], []⟩ := by
  unfold s_l06Shape_j2 at h
  refine posF_of rfl rfl ?_
  try simp only [go_sem]
  refine cond_i (fun hb6 => ?_) (fun hb6 => ?_)
  · replace h := ifT (c := p1_0) hb6 h
    try simp only [go_sem]
    replace h := Option.some.inj h
    obtain rfl := h
    simp only [go_sem]
  · replace h := ifF (c := p1_0) hb6 h
    try simp only [go_sem]
    refine cond_i (fun hb7 => ?_) (fun hb7 => ?_)
    · replace h := ifT (c := (decide (a0 = 4))) hb7 h
      try simp only [go_sem]
      have hj := posF_to rfl rfl (s_l06Shape_j3_ok a0 (decide (a0 = 4)) _ h)
      refine seq_to hj (.one ⟨_, .done _, [], [], ?_⟩)
      clear hj
      try simp only [go_sem]
    · replace h := ifF (c := (decide (a0 = 4))) hb7 h
      try simp only [go_sem]
      have hj := posF_to rfl rfl (s_l06Shape_j3_ok a0 (decide (a0 = 6)) _ h)
      refine seq_to hj (.one ⟨_, .done _, [], [], ?_⟩)
      clear hj
      try simp only [go_sem]
theorem s_l06Shape_j1_ok (a0 : Int) (p0_0 : Bool) (r : Int × Int × Int × Int) (h : s_l06Shape_j1 a0 p0_0 = some r) : posF Try.prog Try.f74 [1, 0, 1, 0, 1] (.tup [.int .i64 r.1, .int .i64 r.2.1, .int .i64 r.2.2.1, .int .i64 r.2.2.2]) ⟨[(6, .int .i64 a0), (7, .bool p0_0)], [], []⟩ := by
  unfold s_l06Shape_j1 at h
  refine posF_of rfl rfl ?_
  try simp only [go_sem]
  refine cond_i (fun hb3 => ?_) (fun hb3 => ?_)
  · replace h := ifT (c := p0_0) hb3 h
    try simp only [go_sem]
    replace h := Option.some.inj h
    obtain rfl := h
    simp only [go_sem]
  · replace h := ifF (c := p0_0) hb3 h
    try simp only [go_sem]
    refine cond_i (fun hb4 => ?_) (fun hb4 => ?_)
    · replace h := ifT (c := (decide (a0 = 3))) hb4 h
      try simp only [go_sem]
      have hj := posF_to rfl rfl (s_l06Shape_j2_ok a0 (decide (a0 = 3)) _ h)
      refine seq_to hj (.one ⟨_, .done _, [], [], ?_⟩)
      clear hj
      try simp only [go_sem]
    · replace h := ifF (c := (decide (a0 = 3))) hb4 h
      try simp only [go_sem]
      refine cond_i (fun hb5 => ?_) (fun hb5 => ?_)
      · replace h := ifT (c := (decide (a0 = 5))) hb5 h
        try simp only [go_sem]
        have hj := posF_to rfl rfl (s_l06Shape_j2_ok a0 (decide (a0 = 5)) _ h)
        refine seq_to hj (.one ⟨_, .done _, [], [], ?_⟩)
        clear hj
        try simp only [go_sem]
      · replace h := ifF (c := (decide (a0 = 5))) hb5 h
        try simp only [go_sem]
        have hj := posF_to rfl rfl (s_l06Shape_j2_ok a0 (decide (a0 = 7)) _ h)
        refine seq_to hj (.one ⟨_, .done _, [], [], ?_⟩)
        clear hj
        try simp only [go_sem]
theorem s_l06Shape_ok (a0 : Int) (r : Int × Int × Int × Int) (h : s_l06Shape a0 = some r) : AC Try.prog 74 [.int .i64 a0] (.tup [.int .i64 r.1, .int .i64 r.2.1, .int .i64 r.2.2.1, .int .i64 r.2.2.2]) := by
  unfold s_l06Shape at h
  refine ac_fn mixed Try.func74 rfl rfl rfl (by kernel_rfl) (by kernel_rfl) ?_
  try simp only [go_sem]
  refine cond_i (fun hb1 => ?_) (fun hb1 => ?_)
  · replace h := ifT (c := (decide (a0 = 1))) hb1 h
    try simp only [go_sem]
    have hj := posF_to rfl rfl (s_l06Shape_j1_ok a0 (decide (a0 = 1)) _ h)
    refine seq_to hj (.one ⟨_, .done _, [], [], ?_⟩)
    clear hj
    try simp only [go_sem]
  · replace h := ifF (c := (decide (a0 = 1))) hb1 h
    try simp only [go_sem]
    refine cond_i (fun hb2 => ?_) (fun hb2 => ?_)
    · replace h := ifT (c := (decide (a0 = 2))) hb2 h
      try simp only [go_sem]
      have hj := posF_to rfl rfl (s_l06Shape_j1_ok a0 (decide (a0 = 2)) _ h)
      refine seq_to hj (.one ⟨_, .done _, [], [], ?_⟩)
      clear hj
      try simp only [go_sem]
    · replace h := ifF (c := (decide (a0 = 2))) hb2 h
      try simp only [go_sem]
      have hj := posF_to rfl rfl (s_l06Shape_j1_ok a0 (decide (a0 = 11)) _ h)
      refine seq_to hj (.one ⟨_, .done _, [], [], ?_⟩)
      clear hj
      try simp only [go_sem]
theorem s_l06Value_ok (a0 : Core) (r : Bool) (h : s_l06Value a0 = some r) : AC Try.prog 75 [.rop (Core.avs a0) 0] (.bool r) := by
  unfold s_l06Value at h
  refine ac_fn mixed Try.func75 rfl rfl rfl (by kernel_rfl) (by kernel_rfl) ?_
  try simp only [go_sem]
  refine cond_i (fun hb1 => ?_) (fun hb1 => ?_)
  · replace h := ifT (c := (decide (a0.kind = 1))) hb1 h
    try simp only [go_sem]
    replace h := bindE h
    obtain ⟨v4004, hv4004, h⟩ := h
    refine call_i (s_l00In_ok _ _ _ _ hv4004) ?_
    try simp only [go_sem]
    refine seq_go ?_
    try simp only [go_sem]
    replace h := Option.some.inj h
    obtain rfl := h
    simp only [go_sem]
  · replace h := ifF (c := (decide (a0.kind = 1))) hb1 h
    try simp only [go_sem]
    refine cond_i (fun hb2 => ?_) (fun hb2 => ?_)
    · replace h := ifT (c := (decide (a0.kind = 2))) hb2 h
      try simp only [go_sem]
      replace h := bindE h
      obtain ⟨v6004, hv6004, h⟩ := h
      refine call_i (s_l00In_ok _ _ _ _ hv6004) ?_
      try simp only [go_sem]
      refine seq_go ?_
      try simp only [go_sem]
      replace h := Option.some.inj h
      obtain rfl := h
      simp only [go_sem]
    · replace h := ifF (c := (decide (a0.kind = 2))) hb2 h
      try simp only [go_sem]
      refine cond_i (fun hb3 => ?_) (fun hb3 => ?_)
      · replace h := ifT (c := (decide (a0.kind = 3))) hb3 h
        try simp only [go_sem]
        replace h := bindE h
        obtain ⟨v8004, hv8004, h⟩ := h
        refine call_i (s_l00In_ok _ _ _ _ hv8004) ?_
        try simp only [go_sem]
        refine seq_go ?_
        try simp only [go_sem]
        replace h := Option.some.inj h
        obtain rfl := h
        simp only [go_sem]
      · replace h := ifF (c := (decide (a0.kind = 3))) hb3 h
        try simp only [go_sem]
        refine cond_i (fun hb4 => ?_) (fun hb4 => ?_)
        · replace h := ifT (c := (decide (a0.kind = 8))) hb4 h
          try simp only [go_sem]
          replace h := bindE h
          obtain ⟨v10004, hv10004, h⟩ := h
          refine call_i (s_l00In_ok _ _ _ _ hv10004) ?_
          try simp only [go_sem]
          refine seq_go ?_
          try simp only [go_sem]
          replace h := Option.some.inj h
          obtain rfl := h
          simp only [go_sem]
        · replace h := ifF (c := (decide (a0.kind = 8))) hb4 h
          try simp only [go_sem]
          refine cond_i (fun hb5 => ?_) (fun hb5 => ?_)
          · replace h := ifT (c := (decide (a0.kind = 11))) hb5 h
            try simp only [go_sem]
            replace h := bindE h
            obtain ⟨v12004, hv12004, h⟩ := h
            refine call_i (s_l00In_ok _ _ _ _ hv12004) ?_
            try simp only [go_sem]
            refine seq_go ?_
            try simp only [go_sem]
            replace h := Option.some.inj h
            obtain rfl := h
            simp only [go_sem]
          · replace h := ifF (c := (decide (a0.kind = 11))) hb5 h
            try simp only [go_sem]
            refine seq_go ?_
            try simp only [go_sem]
            replace h := Option.some.inj h
            obtain rfl := h
            simp only [go_sem]
theorem s_l06Nodes_all (n : Nat) : (∀ (a0 : Core) (a1 : Int) (a2 : Int) (r : Int), s_l06Nodes n a0 a1 a2 = some r → AC Try.prog 66 [.rop (Core.avs a0) 0, .int .i64 a1, .int .i64 a2] (.int .i64 r)) ∧
    (∀ (a0 : Core) (a1 : Int) (a2 : Int) (p0_0 : Bool) (r : Int), s_l06Nodes_j1 n a0 a1 a2 p0_0 = some r → posF Try.prog Try.f66 [1, 1, 0, 1] (.int .i64 r) ⟨[(0, .rop [.int .i64 a0.kind, .int .i64 a0.value, .ro (List.map i64D a0.data), .ro (List.map Core.ds a0.kids)] 0), (1, .int .i64 a1), (2, .int .i64 a2), (57, .bool p0_0)], [], []⟩) ∧
    (∀ (a0 : Core) (a1 : Int) (a2 : Int) (p1_0 : Int) (r : Int), s_l06Nodes_l2 n a0 a1 a2 p1_0 = some r → posF Try.prog Try.f66 [1, 1, 1, 0, 1, 0] (.int .i64 r) ⟨[(0, .rop [.int .i64 a0.kind, .int .i64 a0.value, .ro (List.map i64D a0.data), .ro (List.map Core.ds a0.kids)] 0), (1, .int .i64 a1), (2, .int .i64 a2), (11, .int .i64 p1_0)], [], []⟩) ∧
    (∀ (a0 : Core) (a1 : Int) (a2 : Int) (p2_0 : Int) (p2_1 : Int) (r : Int), s_l06Nodes_l3 n a0 a1 a2 p2_0 p2_1 = some r → posF Try.prog Try.f66 [1, 1, 1, 1, 1, 0, 1, 0] (.int .i64 r) ⟨[(0, .rop [.int .i64 a0.kind, .int .i64 a0.value, .ro (List.map i64D a0.data), .ro (List.map Core.ds a0.kids)] 0), (1, .int .i64 a1), (2, .int .i64 a2), (12, .int .i64 p2_0), (13, .int .i64 p2_1)], [], []⟩) := by
  induction n with
  | zero => exact ⟨(fun _ _ _ _ h => by rw [s_l06Nodes] at h; cases h), (fun _ _ _ _ _ h => by rw [s_l06Nodes_j1] at h; cases h), (fun _ _ _ _ _ h => by rw [s_l06Nodes_l2] at h; cases h), (fun _ _ _ _ _ _ h => by rw [s_l06Nodes_l3] at h; cases h)⟩
  | succ n ih =>
    obtain ⟨ih0, ih1, ih2, ih3⟩ := ih
    refine ⟨?_, ?_, ?_, ?_⟩
    · intro a0 a1 a2 r h
      rw [s_l06Nodes] at h
      refine ac_fn mixed Try.func66 rfl rfl rfl (by kernel_rfl) (by kernel_rfl) ?_
      try simp only [go_sem]
      replace h := bindE h
      obtain ⟨v2004, hv2004, h⟩ := h
      refine call_i (s_l06Shape_ok _ _ hv2004) ?_
      try simp only [go_sem]
      refine seq_go ?_
      try simp only [go_sem]
      refine cond_i (fun hb1 => ?_) (fun hb1 => ?_)
      · replace h := ifT (c := (decide (a1 < 1))) hb1 h
        try simp only [go_sem]
        have hj := posF_to rfl rfl (ih1 a0 a1 a2 true _ h)
        refine seq_to hj (.one ⟨_, .done _, [], [], ?_⟩)
        clear hj
        try simp only [go_sem]
      · replace h := ifF (c := (decide (a1 < 1))) hb1 h
        try simp only [go_sem]
        refine cond_i (fun hb2 => ?_) (fun hb2 => ?_)
        · replace h := ifT (c := (decide (a2 < 1))) hb2 h
          try simp only [go_sem]
          have hj := posF_to rfl rfl (ih1 a0 a1 a2 true _ h)
          refine seq_to hj (.one ⟨_, .done _, [], [], ?_⟩)
          clear hj
          try simp only [go_sem]
        · replace h := ifF (c := (decide (a2 < 1))) hb2 h
          try simp only [go_sem]
          replace h := bindE h
          obtain ⟨v3014, hv3014, h⟩ := h
          refine call_i (s_l00In_ok _ _ _ _ hv3014) ?_
          try simp only [go_sem]
          refine cond_i (fun hb3 => ?_) (fun hb3 => ?_)
          · replace h := ifT (c := (!v3014)) hb3 h
            try simp only [go_sem]
            have hj := posF_to rfl rfl (ih1 a0 a1 a2 true _ h)
            refine seq_to hj (.one ⟨_, .done _, [], [], ?_⟩)
            clear hj
            try simp only [go_sem]
          · replace h := ifF (c := (!v3014)) hb3 h
            try simp only [go_sem]
            replace h := bindE h
            obtain ⟨v3025, hv3025, h⟩ := h
            refine call_i (s_l00In_ok _ _ _ _ hv3025) ?_
            try simp only [go_sem]
            refine cond_i (fun hb4 => ?_) (fun hb4 => ?_)
            · replace h := ifT (c := (!v3025)) hb4 h
              try simp only [go_sem]
              have hj := posF_to rfl rfl (ih1 a0 a1 a2 true _ h)
              refine seq_to hj (.one ⟨_, .done _, [], [], ?_⟩)
              clear hj
              try simp only [go_sem]
            · replace h := ifF (c := (!v3025)) hb4 h
              try simp only [go_sem]
              replace h := bindE h
              obtain ⟨v3030, hv3030, h⟩ := h
              refine call_i (s_l06Value_ok _ _ hv3030) ?_
              try simp only [go_sem]
              have hj := posF_to rfl rfl (ih1 a0 a1 a2 (!v3030) _ h)
              refine seq_to hj (.one ⟨_, .done _, [], [], ?_⟩)
              clear hj
              try simp only [go_sem]
    · intro a0 a1 a2 p0_0 r h
      rw [s_l06Nodes_j1] at h
      refine posF_of rfl rfl ?_
      try simp only [go_sem]
      refine cond_i (fun hb5 => ?_) (fun hb5 => ?_)
      · replace h := ifT (c := p0_0) hb5 h
        try simp only [go_sem]
        replace h := Option.some.inj h
        obtain rfl := h
        simp only [go_sem]
      · replace h := ifF (c := p0_0) hb5 h
        try simp only [go_sem]
        refine seq_go ?_
        try simp only [go_sem]
        have hj := posF_to rfl rfl (ih2 a0 a1 a2 0 _ h)
        refine loop_to hj (.one ⟨_, .done _, [], [], ?_⟩)
        clear hj
        try simp only [go_sem]
    · intro a0 a1 a2 p1_0 r h
      rw [s_l06Nodes_l2] at h
      refine posF_of rfl rfl ?_
      try simp only [go_sem]
      refine loop_i ?_
      try simp only [go_sem]
      refine cond_i (fun hb6 => ?_) (fun hb6 => ?_)
      · replace h := ifT (c := (decide (p1_0 < ((List.length a0.data : Nat) : Int)))) hb6 h
        try simp only [go_sem]
        refine seq_go ?_
        try simp only [go_sem]
        replace h := bindE h
        obtain ⟨v8005, hv8005, h⟩ := h
        refine idx_m hv8005 rfl ?_
        try simp only [go_sem]
        replace h := bindE h
        obtain ⟨v8007, hv8007, h⟩ := h
        refine call_i (s_l00In_ok _ _ _ _ hv8007) ?_
        try simp only [go_sem]
        refine seq_go ?_
        try simp only [go_sem]
        refine cond_i (fun hb7 => ?_) (fun hb7 => ?_)
        · replace h := ifT (c := (!v8007)) hb7 h
          try simp only [go_sem]
          replace h := Option.some.inj h
          obtain rfl := h
          simp only [go_sem]
        · replace h := ifF (c := (!v8007)) hb7 h
          try simp only [go_sem]
          refine seq_go ?_
          try simp only [go_sem]
          have hj := posF_to rfl rfl (ih2 a0 a1 a2 (IntKind.i64.wrap (p1_0 + 1)) _ h)
          refine lp_to hj (.one ⟨_, .done _, [], [], ?_⟩)
          clear hj
          try simp only [go_sem]
      · replace h := ifF (c := (decide (p1_0 < ((List.length a0.data : Nat) : Int)))) hb6 h
        try simp only [go_sem]
        refine seq_go ?_
        try simp only [go_sem]
        have hj := posF_to rfl rfl (ih3 a0 a1 a2 1 0 _ h)
        refine loop_to hj (.one ⟨_, .done _, [], [], ?_⟩)
        clear hj
        try simp only [go_sem]
    · intro a0 a1 a2 p2_0 p2_1 r h
      rw [s_l06Nodes_l3] at h
      refine posF_of rfl rfl ?_
      try simp only [go_sem]
      refine loop_i ?_
      try simp only [go_sem]
      refine cond_i (fun hb8 => ?_) (fun hb8 => ?_)
      · replace h := ifT (c := (decide (p2_1 < ((List.length a0.kids : Nat) : Int)))) hb8 h
        try simp only [go_sem]
        refine seq_go ?_
        try simp only [go_sem]
        replace h := bindE h
        obtain ⟨v14005, hv14005, h⟩ := h
        refine idx_m hv14005 (Core.ds_len _) ?_
        try simp only [go_sem]
        replace h := bindE h
        obtain ⟨v14011, hv14011, h⟩ := h
        refine call_i (ih0 _ _ _ _ hv14011) ?_
        try simp only [go_sem]
        refine seq_go ?_
        try simp only [go_sem]
        refine cond_i (fun hb9 => ?_) (fun hb9 => ?_)
        · replace h := ifT (c := (decide (v14011 < 0))) hb9 h
          try simp only [go_sem]
          replace h := Option.some.inj h
          obtain rfl := h
          simp only [go_sem]
        · replace h := ifF (c := (decide (v14011 < 0))) hb9 h
          try simp only [go_sem]
          refine seq_go ?_
          try simp only [go_sem]
          refine seq_go ?_
          try simp only [go_sem]
          have hj := posF_to rfl rfl (ih3 a0 a1 a2 (IntKind.i64.wrap (p2_0 + v14011)) (IntKind.i64.wrap (p2_1 + 1)) _ h)
          refine lp_to hj (.one ⟨_, .done _, [], [], ?_⟩)
          clear hj
          try simp only [go_sem]
      · replace h := ifF (c := (decide (p2_1 < ((List.length a0.kids : Nat) : Int)))) hb8 h
        try simp only [go_sem]
        refine seq_go ?_
        try simp only [go_sem]
        replace h := Option.some.inj h
        obtain rfl := h
        simp only [go_sem]
theorem s_l06Nodes_ok (n : Nat) : (∀ (a0 : Core) (a1 : Int) (a2 : Int) (r : Int), s_l06Nodes n a0 a1 a2 = some r → AC Try.prog 66 [.rop (Core.avs a0) 0, .int .i64 a1, .int .i64 a2] (.int .i64 r)) := (s_l06Nodes_all n).1
theorem s_l06Nodes_j1_ok (n : Nat) : (∀ (a0 : Core) (a1 : Int) (a2 : Int) (p0_0 : Bool) (r : Int), s_l06Nodes_j1 n a0 a1 a2 p0_0 = some r → posF Try.prog Try.f66 [1, 1, 0, 1] (.int .i64 r) ⟨[(0, .rop [.int .i64 a0.kind, .int .i64 a0.value, .ro (List.map i64D a0.data), .ro (List.map Core.ds a0.kids)] 0), (1, .int .i64 a1), (2, .int .i64 a2), (57, .bool p0_0)], [], []⟩) := (s_l06Nodes_all n).2.1
theorem s_l06Nodes_l2_ok (n : Nat) : (∀ (a0 : Core) (a1 : Int) (a2 : Int) (p1_0 : Int) (r : Int), s_l06Nodes_l2 n a0 a1 a2 p1_0 = some r → posF Try.prog Try.f66 [1, 1, 1, 0, 1, 0] (.int .i64 r) ⟨[(0, .rop [.int .i64 a0.kind, .int .i64 a0.value, .ro (List.map i64D a0.data), .ro (List.map Core.ds a0.kids)] 0), (1, .int .i64 a1), (2, .int .i64 a2), (11, .int .i64 p1_0)], [], []⟩) := (s_l06Nodes_all n).2.2.1
theorem s_l06Nodes_l3_ok (n : Nat) : (∀ (a0 : Core) (a1 : Int) (a2 : Int) (p2_0 : Int) (p2_1 : Int) (r : Int), s_l06Nodes_l3 n a0 a1 a2 p2_0 p2_1 = some r → posF Try.prog Try.f66 [1, 1, 1, 1, 1, 0, 1, 0] (.int .i64 r) ⟨[(0, .rop [.int .i64 a0.kind, .int .i64 a0.value, .ro (List.map i64D a0.data), .ro (List.map Core.ds a0.kids)] 0), (1, .int .i64 a1), (2, .int .i64 a2), (12, .int .i64 p2_0), (13, .int .i64 p2_1)], [], []⟩) := (s_l06Nodes_all n).2.2.2

theorem s_l06Ok_ok (a0 : Core) (r : Bool) (h : s_l06Ok a0 = some r) : AC Try.prog 57 [.rop (Core.avs a0) 0] (.bool r) := by
  unfold s_l06Ok at h
  refine ac_fn mixed Try.func57 rfl rfl rfl (by kernel_rfl) (by kernel_rfl) ?_
  try simp only [go_sem]
  replace h := bindE h
  obtain ⟨v2001, hv2001, h⟩ := h
  refine call_i (s_l06Nodes_ok fuel _ _ _ _ hv2001) ?_
  try simp only [go_sem]
  refine seq_go ?_
  try simp only [go_sem]
  replace h := Option.some.inj h
  obtain rfl := h
  simp only [go_sem]
theorem s_l06Binds_j1_ok (p0_0 : Bool) (r : Int) (h : s_l06Binds_j1 p0_0 = some r) : posF Try.prog Try.f67 [1, 0, 1] (.int .i64 r) ⟨[(20, .bool p0_0)], [], []⟩ := by
  unfold s_l06Binds_j1 at h
  refine posF_of rfl rfl ?_
  try simp only [go_sem]
  refine cond_i (fun hb3 => ?_) (fun hb3 => ?_)
  · replace h := ifT (c := p0_0) hb3 h
    try simp only [go_sem]
    replace h := Option.some.inj h
    obtain rfl := h
    simp only [go_sem]
  · replace h := ifF (c := p0_0) hb3 h
    try simp only [go_sem]
    refine seq_go ?_
    try simp only [go_sem]
    replace h := Option.some.inj h
    obtain rfl := h
    simp only [go_sem]
theorem s_l06Binds_ok (a0 : Core) (a1 : Int) (r : Int) (h : s_l06Binds a0 a1 = some r) : AC Try.prog 67 [.rop (Core.avs a0) 0, .int .i64 a1] (.int .i64 r) := by
  unfold s_l06Binds at h
  refine ac_fn mixed Try.func67 rfl rfl rfl (by kernel_rfl) (by kernel_rfl) ?_
  try simp only [go_sem]
  refine cond_i (fun hb1 => ?_) (fun hb1 => ?_)
  · replace h := ifT (c := (decide (a0.kind = 4))) hb1 h
    try simp only [go_sem]
    have hj := posF_to rfl rfl (s_l06Binds_j1_ok true _ h)
    refine seq_to hj (.one ⟨_, .done _, [], [], ?_⟩)
    clear hj
    try simp only [go_sem]
  · replace h := ifF (c := (decide (a0.kind = 4))) hb1 h
    try simp only [go_sem]
    refine cond_i (fun hb2 => ?_) (fun hb2 => ?_)
    · replace h := ifT (c := (decide (a0.kind = 7))) hb2 h
      try simp only [go_sem]
      have hj := posF_to rfl rfl (s_l06Binds_j1_ok (decide (a1 = 1)) _ h)
      refine seq_to hj (.one ⟨_, .done _, [], [], ?_⟩)
      clear hj
      try simp only [go_sem]
    · replace h := ifF (c := (decide (a0.kind = 7))) hb2 h
      try simp only [go_sem]
      have hj := posF_to rfl rfl (s_l06Binds_j1_ok false _ h)
      refine seq_to hj (.one ⟨_, .done _, [], [], ?_⟩)
      clear hj
      try simp only [go_sem]
theorem s_l06Above_all (n : Nat) : (∀ (a0 : Core) (a1 : Int) (r : Bool), s_l06Above n a0 a1 = some r → AC Try.prog 58 [.rop (Core.avs a0) 0, .int .i64 a1] (.bool r)) ∧
    (∀ (a0 : Core) (a1 : Int) (p0_0 : Int) (r : Bool), s_l06Above_l1 n a0 a1 p0_0 = some r → posF Try.prog Try.f58 [1, 1, 0, 1, 0] (.bool r) ⟨[(0, .rop [.int .i64 a0.kind, .int .i64 a0.value, .ro (List.map i64D a0.data), .ro (List.map Core.ds a0.kids)] 0), (1, .int .i64 a1), (5, .int .i64 p0_0)], [], []⟩) := by
  induction n with
  | zero => exact ⟨(fun _ _ _ h => by rw [s_l06Above] at h; cases h), (fun _ _ _ _ h => by rw [s_l06Above_l1] at h; cases h)⟩
  | succ n ih =>
    obtain ⟨ih0, ih1⟩ := ih
    refine ⟨?_, ?_⟩
    · intro a0 a1 r h
      rw [s_l06Above] at h
      refine ac_fn mixed Try.func58 rfl rfl rfl (by kernel_rfl) (by kernel_rfl) ?_
      try simp only [go_sem]
      refine cond_i (fun hb1 => ?_) (fun hb1 => ?_)
      · replace h := ifT (c := (decide (a0.kind = 1))) hb1 h
        try simp only [go_sem]
        replace h := Option.some.inj h
        obtain rfl := h
        simp only [go_sem]
      · replace h := ifF (c := (decide (a0.kind = 1))) hb1 h
        try simp only [go_sem]
        refine seq_go ?_
        try simp only [go_sem]
        have hj := posF_to rfl rfl (ih1 a0 a1 0 _ h)
        refine loop_to hj (.one ⟨_, .done _, [], [], ?_⟩)
        clear hj
        try simp only [go_sem]
    · intro a0 a1 p0_0 r h
      rw [s_l06Above_l1] at h
      refine posF_of rfl rfl ?_
      try simp only [go_sem]
      refine loop_i ?_
      try simp only [go_sem]
      refine cond_i (fun hb2 => ?_) (fun hb2 => ?_)
      · replace h := ifT (c := (decide (p0_0 < ((List.length a0.kids : Nat) : Int)))) hb2 h
        try simp only [go_sem]
        refine seq_go ?_
        try simp only [go_sem]
        refine draw_i [] .fin (by kernel_rfl) ?_
        try simp only [go_sem]
        replace h := bindE h
        obtain ⟨v7005, hv7005, h⟩ := h
        refine idx_m hv7005 (Core.ds_len _) ?_
        try simp only [go_sem]
        replace h := bindE h
        obtain ⟨v7009, hv7009, h⟩ := h
        refine call_i (s_l06Binds_ok _ _ _ hv7009) ?_
        try simp only [go_sem]
        replace h := bindE h
        obtain ⟨v7011, hv7011, h⟩ := h
        refine call_i (ih0 _ _ _ hv7011) ?_
        try simp only [go_sem]
        refine seq_go ?_
        try simp only [go_sem]
        refine cond_i (fun hb3 => ?_) (fun hb3 => ?_)
        · replace h := ifT (c := v7011) hb3 h
          try simp only [go_sem]
          replace h := Option.some.inj h
          obtain rfl := h
          simp only [go_sem]
        · replace h := ifF (c := v7011) hb3 h
          try simp only [go_sem]
          refine seq_go ?_
          try simp only [go_sem]
          have hj := posF_to rfl rfl (ih1 a0 a1 (IntKind.i64.wrap (p0_0 + 1)) _ h)
          refine lp_to hj (.one ⟨_, .done _, [], [], ?_⟩)
          clear hj
          try simp only [go_sem]
      · replace h := ifF (c := (decide (p0_0 < ((List.length a0.kids : Nat) : Int)))) hb2 h
        try simp only [go_sem]
        refine seq_go ?_
        try simp only [go_sem]
        replace h := Option.some.inj h
        obtain rfl := h
        simp only [go_sem]
theorem s_l06Above_ok (n : Nat) : (∀ (a0 : Core) (a1 : Int) (r : Bool), s_l06Above n a0 a1 = some r → AC Try.prog 58 [.rop (Core.avs a0) 0, .int .i64 a1] (.bool r)) := (s_l06Above_all n).1
theorem s_l06Above_l1_ok (n : Nat) : (∀ (a0 : Core) (a1 : Int) (p0_0 : Int) (r : Bool), s_l06Above_l1 n a0 a1 p0_0 = some r → posF Try.prog Try.f58 [1, 1, 0, 1, 0] (.bool r) ⟨[(0, .rop [.int .i64 a0.kind, .int .i64 a0.value, .ro (List.map i64D a0.data), .ro (List.map Core.ds a0.kids)] 0), (1, .int .i64 a1), (5, .int .i64 p0_0)], [], []⟩) := (s_l06Above_all n).2

theorem s_l06Closed_ok (a0 : Core) (r : Bool) (h : s_l06Closed a0 = some r) : AC Try.prog 35 [.rop (Core.avs a0) 0] (.bool r) := by
  unfold s_l06Closed at h
  refine ac_fn mixed Try.func35 rfl rfl rfl (by kernel_rfl) (by kernel_rfl) ?_
  try simp only [go_sem]
  replace h := bindE h
  obtain ⟨v2001, hv2001, h⟩ := h
  refine call_i (s_l06Ok_ok _ _ hv2001) ?_
  try simp only [go_sem]
  refine cond_i (fun hb1 => ?_) (fun hb1 => ?_)
  · replace h := ifT (c := v2001) hb1 h
    try simp only [go_sem]
    replace h := bindE h
    obtain ⟨v2004, hv2004, h⟩ := h
    refine call_i (s_l06Above_ok fuel _ _ _ hv2004) ?_
    try simp only [go_sem]
    refine seq_go ?_
    try simp only [go_sem]
    replace h := Option.some.inj h
    obtain rfl := h
    simp only [go_sem]
  · replace h := ifF (c := v2001) hb1 h
    try simp only [go_sem]
    refine seq_go ?_
    try simp only [go_sem]
    replace h := Option.some.inj h
    obtain rfl := h
    simp only [go_sem]
theorem s_l06Erased_all (n : Nat) : (∀ (a0 : Core) (r : Bool), s_l06Erased n a0 = some r → AC Try.prog 36 [.rop (Core.avs a0) 0] (.bool r)) ∧
    (∀ (a0 : Core) (p0_0 : Bool) (r : Bool), s_l06Erased_j1 n a0 p0_0 = some r → posF Try.prog Try.f36 [1, 0, 1] (.bool r) ⟨[(0, .rop [.int .i64 a0.kind, .int .i64 a0.value, .ro (List.map i64D a0.data), .ro (List.map Core.ds a0.kids)] 0), (15, .bool p0_0)], [], []⟩) ∧
    (∀ (a0 : Core) (p1_0 : Int) (r : Bool), s_l06Erased_l2 n a0 p1_0 = some r → posF Try.prog Try.f36 [1, 1, 0, 1, 0] (.bool r) ⟨[(0, .rop [.int .i64 a0.kind, .int .i64 a0.value, .ro (List.map i64D a0.data), .ro (List.map Core.ds a0.kids)] 0), (3, .int .i64 p1_0)], [], []⟩) := by
  induction n with
  | zero => exact ⟨(fun _ _ h => by rw [s_l06Erased] at h; cases h), (fun _ _ _ h => by rw [s_l06Erased_j1] at h; cases h), (fun _ _ _ h => by rw [s_l06Erased_l2] at h; cases h)⟩
  | succ n ih =>
    obtain ⟨ih0, ih1, ih2⟩ := ih
    refine ⟨?_, ?_, ?_⟩
    · intro a0 r h
      rw [s_l06Erased] at h
      refine ac_fn mixed Try.func36 rfl rfl rfl (by kernel_rfl) (by kernel_rfl) ?_
      try simp only [go_sem]
      refine cond_i (fun hb1 => ?_) (fun hb1 => ?_)
      · replace h := ifT (c := (decide (a0.kind = 6))) hb1 h
        try simp only [go_sem]
        have hj := posF_to rfl rfl (ih1 a0 true _ h)
        refine seq_to hj (.one ⟨_, .done _, [], [], ?_⟩)
        clear hj
        try simp only [go_sem]
      · replace h := ifF (c := (decide (a0.kind = 6))) hb1 h
        try simp only [go_sem]
        have hj := posF_to rfl rfl (ih1 a0 (decide (a0.kind = 7)) _ h)
        refine seq_to hj (.one ⟨_, .done _, [], [], ?_⟩)
        clear hj
        try simp only [go_sem]
    · intro a0 p0_0 r h
      rw [s_l06Erased_j1] at h
      refine posF_of rfl rfl ?_
      try simp only [go_sem]
      refine cond_i (fun hb2 => ?_) (fun hb2 => ?_)
      · replace h := ifT (c := p0_0) hb2 h
        try simp only [go_sem]
        replace h := Option.some.inj h
        obtain rfl := h
        simp only [go_sem]
      · replace h := ifF (c := p0_0) hb2 h
        try simp only [go_sem]
        refine seq_go ?_
        try simp only [go_sem]
        have hj := posF_to rfl rfl (ih2 a0 0 _ h)
        refine loop_to hj (.one ⟨_, .done _, [], [], ?_⟩)
        clear hj
        try simp only [go_sem]
    · intro a0 p1_0 r h
      rw [s_l06Erased_l2] at h
      refine posF_of rfl rfl ?_
      try simp only [go_sem]
      refine loop_i ?_
      try simp only [go_sem]
      refine cond_i (fun hb3 => ?_) (fun hb3 => ?_)
      · replace h := ifT (c := (decide (p1_0 < ((List.length a0.kids : Nat) : Int)))) hb3 h
        try simp only [go_sem]
        refine seq_go ?_
        try simp only [go_sem]
        replace h := bindE h
        obtain ⟨v7005, hv7005, h⟩ := h
        refine idx_m hv7005 (Core.ds_len _) ?_
        try simp only [go_sem]
        replace h := bindE h
        obtain ⟨v7006, hv7006, h⟩ := h
        refine call_i (ih0 _ _ hv7006) ?_
        try simp only [go_sem]
        refine seq_go ?_
        try simp only [go_sem]
        refine cond_i (fun hb4 => ?_) (fun hb4 => ?_)
        · replace h := ifT (c := (!v7006)) hb4 h
          try simp only [go_sem]
          replace h := Option.some.inj h
          obtain rfl := h
          simp only [go_sem]
        · replace h := ifF (c := (!v7006)) hb4 h
          try simp only [go_sem]
          refine seq_go ?_
          try simp only [go_sem]
          have hj := posF_to rfl rfl (ih2 a0 (IntKind.i64.wrap (p1_0 + 1)) _ h)
          refine lp_to hj (.one ⟨_, .done _, [], [], ?_⟩)
          clear hj
          try simp only [go_sem]
      · replace h := ifF (c := (decide (p1_0 < ((List.length a0.kids : Nat) : Int)))) hb3 h
        try simp only [go_sem]
        refine seq_go ?_
        try simp only [go_sem]
        replace h := Option.some.inj h
        obtain rfl := h
        simp only [go_sem]
theorem s_l06Erased_ok (n : Nat) : (∀ (a0 : Core) (r : Bool), s_l06Erased n a0 = some r → AC Try.prog 36 [.rop (Core.avs a0) 0] (.bool r)) := (s_l06Erased_all n).1
theorem s_l06Erased_j1_ok (n : Nat) : (∀ (a0 : Core) (p0_0 : Bool) (r : Bool), s_l06Erased_j1 n a0 p0_0 = some r → posF Try.prog Try.f36 [1, 0, 1] (.bool r) ⟨[(0, .rop [.int .i64 a0.kind, .int .i64 a0.value, .ro (List.map i64D a0.data), .ro (List.map Core.ds a0.kids)] 0), (15, .bool p0_0)], [], []⟩) := (s_l06Erased_all n).2.1
theorem s_l06Erased_l2_ok (n : Nat) : (∀ (a0 : Core) (p1_0 : Int) (r : Bool), s_l06Erased_l2 n a0 p1_0 = some r → posF Try.prog Try.f36 [1, 1, 0, 1, 0] (.bool r) ⟨[(0, .rop [.int .i64 a0.kind, .int .i64 a0.value, .ro (List.map i64D a0.data), .ro (List.map Core.ds a0.kids)] 0), (3, .int .i64 p1_0)], [], []⟩) := (s_l06Erased_all n).2.2

theorem s_l08Left_all (n : Nat) : (∀ (a0 : Core) (a1 : Int) (r : Int), s_l08Left n a0 a1 = some r → AC Try.prog 37 [.rop (Core.avs a0) 0, .int .i64 a1] (.int .i64 r)) ∧
    (∀ (a0 : Core) (p0_0 : Int) (p0_1 : Int) (r : Int), s_l08Left_l3 n a0 p0_0 p0_1 = some r → posF Try.prog Try.f37 [1, 1, 0, 1, 0] (.int .i64 r) ⟨[(0, .rop [.int .i64 a0.kind, .int .i64 a0.value, .ro (List.map i64D a0.data), .ro (List.map Core.ds a0.kids)] 0), (1, .int .i64 p0_0), (5, .int .i64 p0_1)], [], []⟩) ∧
    (∀ (a0 : Core) (p0_0 : Int) (p0_1 : Int) (p1_0 : Bool) (r : Int), s_l08Left_j4 n a0 p0_0 p0_1 p1_0 = some r → posF Try.prog Try.f37 [1, 1, 0, 1, 0, 0, 0, 1] (.int .i64 r) ⟨[(0, .rop [.int .i64 a0.kind, .int .i64 a0.value, .ro (List.map i64D a0.data), .ro (List.map Core.ds a0.kids)] 0), (1, .int .i64 p0_0), (5, .int .i64 p0_1), (18, .bool p1_0)], [], []⟩) := by
  induction n with
  | zero => exact ⟨(fun _ _ _ h => by rw [s_l08Left] at h; cases h), (fun _ _ _ _ h => by rw [s_l08Left_l3] at h; cases h), (fun _ _ _ _ _ h => by rw [s_l08Left_j4] at h; cases h)⟩
  | succ n ih =>
    obtain ⟨ih0, ih1, ih2⟩ := ih
    refine ⟨?_, ?_, ?_⟩
    · intro a0 a1 r h
      rw [s_l08Left] at h
      refine ac_fn mixed Try.func37 rfl rfl rfl (by kernel_rfl) (by kernel_rfl) ?_
      try simp only [go_sem]
      have hj := posF_to rfl rfl (ih1 a0 (IntKind.i64.wrap (a1 - 1)) 0 _ h)
      refine loop_to hj (.one ⟨_, .done _, [], [], ?_⟩)
      clear hj
      try simp only [go_sem]
    · intro a0 p0_0 p0_1 r h
      rw [s_l08Left_l3] at h
      refine posF_of rfl rfl ?_
      try simp only [go_sem]
      refine loop_i ?_
      try simp only [go_sem]
      refine cond_i (fun hb1 => ?_) (fun hb1 => ?_)
      · replace h := ifT (c := (decide (p0_1 < ((List.length a0.kids : Nat) : Int)))) hb1 h
        try simp only [go_sem]
        have hj := posF_to rfl rfl (ih2 a0 p0_0 p0_1 (decide (0 ≤ p0_0)) _ h)
        refine seq_to hj (.one ⟨_, .done _, [], [], ?_⟩)
        clear hj
        try simp only [go_sem]
      · replace h := ifF (c := (decide (p0_1 < ((List.length a0.kids : Nat) : Int)))) hb1 h
        try simp only [go_sem]
        have hj := posF_to rfl rfl (ih2 a0 p0_0 p0_1 false _ h)
        refine seq_to hj (.one ⟨_, .done _, [], [], ?_⟩)
        clear hj
        try simp only [go_sem]
    · intro a0 p0_0 p0_1 p1_0 r h
      rw [s_l08Left_j4] at h
      refine posF_of rfl rfl ?_
      try simp only [go_sem]
      refine cond_i (fun hb2 => ?_) (fun hb2 => ?_)
      · replace h := ifT (c := p1_0) hb2 h
        try simp only [go_sem]
        refine seq_go ?_
        try simp only [go_sem]
        replace h := bindE h
        obtain ⟨v6005, hv6005, h⟩ := h
        refine idx_m hv6005 (Core.ds_len _) ?_
        try simp only [go_sem]
        replace h := bindE h
        obtain ⟨v6007, hv6007, h⟩ := h
        refine call_i (ih0 _ _ _ hv6007) ?_
        try simp only [go_sem]
        refine seq_go ?_
        try simp only [go_sem]
        have hj := posF_to rfl rfl (ih1 a0 v6007 (IntKind.i64.wrap (p0_1 + 1)) _ h)
        refine lp_to hj (.one ⟨_, .done _, [], [], ?_⟩)
        clear hj
        try simp only [go_sem]
      · replace h := ifF (c := p1_0) hb2 h
        try simp only [go_sem]
        refine seq_go ?_
        try simp only [go_sem]
        replace h := Option.some.inj h
        obtain rfl := h
        simp only [go_sem]
theorem s_l08Left_ok (n : Nat) : (∀ (a0 : Core) (a1 : Int) (r : Int), s_l08Left n a0 a1 = some r → AC Try.prog 37 [.rop (Core.avs a0) 0, .int .i64 a1] (.int .i64 r)) := (s_l08Left_all n).1
theorem s_l08Left_l3_ok (n : Nat) : (∀ (a0 : Core) (p0_0 : Int) (p0_1 : Int) (r : Int), s_l08Left_l3 n a0 p0_0 p0_1 = some r → posF Try.prog Try.f37 [1, 1, 0, 1, 0] (.int .i64 r) ⟨[(0, .rop [.int .i64 a0.kind, .int .i64 a0.value, .ro (List.map i64D a0.data), .ro (List.map Core.ds a0.kids)] 0), (1, .int .i64 p0_0), (5, .int .i64 p0_1)], [], []⟩) := (s_l08Left_all n).2.1
theorem s_l08Left_j4_ok (n : Nat) : (∀ (a0 : Core) (p0_0 : Int) (p0_1 : Int) (p1_0 : Bool) (r : Int), s_l08Left_j4 n a0 p0_0 p0_1 p1_0 = some r → posF Try.prog Try.f37 [1, 1, 0, 1, 0, 0, 0, 1] (.int .i64 r) ⟨[(0, .rop [.int .i64 a0.kind, .int .i64 a0.value, .ro (List.map i64D a0.data), .ro (List.map Core.ds a0.kids)] 0), (1, .int .i64 p0_0), (5, .int .i64 p0_1), (18, .bool p1_0)], [], []⟩) := (s_l08Left_all n).2.2

theorem s_l38Texts_l1_all (n : Nat) : (∀ (a0 : List ByteArray) (p0_0 : Int) (r : Bool), s_l38Texts_l1 n a0 p0_0 = some r → posF Try.prog Try.f38 [1, 0, 1, 0] (.bool r) ⟨[(0, .ro (List.map strD a0)), (3, .int .i64 p0_0)], [], []⟩) := by
  induction n with
  | zero => exact ((fun _ _ _ h => by rw [s_l38Texts_l1] at h; cases h))
  | succ n ih =>
    have ih0 := ih
    · intro a0 p0_0 r h
      rw [s_l38Texts_l1] at h
      refine posF_of rfl rfl ?_
      try simp only [go_sem]
      refine loop_i ?_
      try simp only [go_sem]
      refine cond_i (fun hb1 => ?_) (fun hb1 => ?_)
      · replace h := ifT (c := (decide (p0_0 < ((List.length a0 : Nat) : Int)))) hb1 h
        try simp only [go_sem]
        refine seq_go ?_
        try simp only [go_sem]
        replace h := bindE h
        obtain ⟨v5002, hv5002, h⟩ := h
        refine idx_m hv5002 rfl ?_
        try simp only [go_sem]
        refine cond_i (fun hb2 => ?_) (fun hb2 => ?_)
        · replace h := ifT (c := (decide (3000 < ((ByteArray.size v5002 : Nat) : Int)))) hb2 h
          try simp only [go_sem]
          replace h := Option.some.inj h
          obtain rfl := h
          simp only [go_sem]
        · replace h := ifF (c := (decide (3000 < ((ByteArray.size v5002 : Nat) : Int)))) hb2 h
          try simp only [go_sem]
          refine seq_go ?_
          try simp only [go_sem]
          have hj := posF_to rfl rfl (ih0 a0 (IntKind.i64.wrap (p0_0 + 1)) _ h)
          refine lp_to hj (.one ⟨_, .done _, [], [], ?_⟩)
          clear hj
          try simp only [go_sem]
      · replace h := ifF (c := (decide (p0_0 < ((List.length a0 : Nat) : Int)))) hb1 h
        try simp only [go_sem]
        refine seq_go ?_
        try simp only [go_sem]
        replace h := Option.some.inj h
        obtain rfl := h
        simp only [go_sem]
theorem s_l38Texts_l1_ok (n : Nat) : (∀ (a0 : List ByteArray) (p0_0 : Int) (r : Bool), s_l38Texts_l1 n a0 p0_0 = some r → posF Try.prog Try.f38 [1, 0, 1, 0] (.bool r) ⟨[(0, .ro (List.map strD a0)), (3, .int .i64 p0_0)], [], []⟩) := (s_l38Texts_l1_all n)

theorem s_l38Texts_ok (a0 : List ByteArray) (r : Bool) (h : s_l38Texts a0 = some r) : AC Try.prog 38 [.ro (List.map strD a0)] (.bool r) := by
  unfold s_l38Texts at h
  refine ac_fn mixed Try.func38 rfl rfl rfl (by kernel_rfl) (by kernel_rfl) ?_
  try simp only [go_sem]
  have hj := posF_to rfl rfl (s_l38Texts_l1_ok fuel a0 0 _ h)
  refine loop_to hj (.one ⟨_, .done _, [], [], ?_⟩)
  clear hj
  try simp only [go_sem]
theorem s_l38Ok_ok (a0 : Labelled) (r : Bool) (h : s_l38Ok a0 = some r) : AC Try.prog 18 [.rop (Labelled.avs a0) 0] (.bool r) := by
  unfold s_l38Ok at h
  refine ac_fn mixed Try.func18 rfl rfl rfl (by kernel_rfl) (by kernel_rfl) ?_
  try simp only [go_sem]
  refine draw_i [] .fin (by kernel_rfl) ?_
  try simp only [go_sem]
  replace h := bindE h
  obtain ⟨v2003, hv2003, h⟩ := h
  refine call_i (ac_sub (s_l06Closed_ok _ _ hv2003) (.cons (.rop rfl) .nil)) ?_
  try simp only [go_sem]
  refine cond_i (fun hb1 => ?_) (fun hb1 => ?_)
  · replace h := ifT (c := v2003) hb1 h
    try simp only [go_sem]
    replace h := bindE h
    obtain ⟨v2008, hv2008, h⟩ := h
    refine call_i (ac_sub (s_l06Erased_ok fuel _ _ hv2008) (.cons (.rop rfl) .nil)) ?_
    try simp only [go_sem]
    refine cond_i (fun hb2 => ?_) (fun hb2 => ?_)
    · replace h := ifT (c := v2008) hb2 h
      try simp only [go_sem]
      replace h := bindE h
      obtain ⟨v2019, hv2019, h⟩ := h
      refine call_i (ac_sub (s_l08Left_ok fuel _ _ _ hv2019) (.cons (.rop rfl) (.cons (.refl _) .nil))) ?_
      try simp only [go_sem]
      refine cond_i (fun hb3 => ?_) (fun hb3 => ?_)
      · replace h := ifT (c := (decide (v2019 = 0))) hb3 h
        try simp only [go_sem]
        replace h := bindE h
        obtain ⟨v2027, hv2027, h⟩ := h
        refine call_i (s_l38Texts_ok _ _ hv2027) ?_
        try simp only [go_sem]
        refine seq_go ?_
        try simp only [go_sem]
        replace h := Option.some.inj h
        obtain rfl := h
        simp only [go_sem]
      · replace h := ifF (c := (decide (v2019 = 0))) hb3 h
        try simp only [go_sem]
        refine seq_go ?_
        try simp only [go_sem]
        replace h := Option.some.inj h
        obtain rfl := h
        simp only [go_sem]
    · replace h := ifF (c := v2008) hb2 h
      try simp only [go_sem]
      refine seq_go ?_
      try simp only [go_sem]
      replace h := Option.some.inj h
      obtain rfl := h
      simp only [go_sem]
  · replace h := ifF (c := v2003) hb1 h
    try simp only [go_sem]
    refine seq_go ?_
    try simp only [go_sem]
    replace h := Option.some.inj h
    obtain rfl := h
    simp only [go_sem]
end Go.Proofs.Ytgigfdghecdlgaa.Ab
