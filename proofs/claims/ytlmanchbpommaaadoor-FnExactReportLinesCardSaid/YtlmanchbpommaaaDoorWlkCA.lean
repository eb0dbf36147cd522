/-
  The functions do what their models say. Printed by wip/ab/gen.py.
-/
import Derived.Test.YtlmanchbpommaaaDoorModC
import Derived.Test.YtlmanchbpommaaaDoorTi2
import Derived.Test.YtlmanchbpommaaaDoorWlkF
namespace Go.Proofs.YtlmanchbpommaaaDoor.Ab
set_option linter.unusedVariables false
set_option linter.unusedSimpArgs false
set_option maxRecDepth 20000
set_option maxHeartbeats 4000000
open Go.RowKit

theorem i_isOperator_ok (a0 : Int) (r : Bool) (h : i_isOperator a0 = some r) : AC Tryd.prog 64 [.int .i64 a0] (.bool r) := by
  unfold i_isOperator at h
  refine ac_fn mixed Tryd.func64 rfl rfl rfl (by kernel_rfl) (by kernel_rfl) ?_
  try simp only [go_sem]
  refine cond_i (fun hb1 => ?_) (fun hb1 => ?_)
  · replace h := ifT (c := (decide (1 ≤ a0))) hb1 h
    try simp only [go_sem]
    refine seq_go ?_
    try simp only [go_sem]
    replace h := Option.some.inj h
    obtain rfl := h
    simp only [go_sem]
  · replace h := ifF (c := (decide (1 ≤ a0))) hb1 h
    try simp only [go_sem]
    refine seq_go ?_
    try simp only [go_sem]
    replace h := Option.some.inj h
    obtain rfl := h
    simp only [go_sem]
theorem i_isInt_ok (a0 : Int) (r : Bool) (h : i_isInt a0 = some r) : AC Tryd.prog 72 [.int .i64 a0] (.bool r) := by
  unfold i_isInt at h
  refine ac_fn mixed Tryd.func72 rfl rfl rfl (by kernel_rfl) (by kernel_rfl) ?_
  try simp only [go_sem]
  refine cond_i (fun hb1 => ?_) (fun hb1 => ?_)
  · replace h := ifT (c := (decide ((-2147483648) ≤ a0))) hb1 h
    try simp only [go_sem]
    refine seq_go ?_
    try simp only [go_sem]
    replace h := Option.some.inj h
    obtain rfl := h
    simp only [go_sem]
  · replace h := ifF (c := (decide ((-2147483648) ≤ a0))) hb1 h
    try simp only [go_sem]
    refine seq_go ?_
    try simp only [go_sem]
    replace h := Option.some.inj h
    obtain rfl := h
    simp only [go_sem]
theorem i_isDefIndex_ok (a0 : Int) (r : Bool) (h : i_isDefIndex a0 = some r) : AC Tryd.prog 73 [.int .i64 a0] (.bool r) := by
  unfold i_isDefIndex at h
  refine ac_fn mixed Tryd.func73 rfl rfl rfl (by kernel_rfl) (by kernel_rfl) ?_
  try simp only [go_sem]
  refine cond_i (fun hb1 => ?_) (fun hb1 => ?_)
  · replace h := ifT (c := (decide (0 ≤ a0))) hb1 h
    try simp only [go_sem]
    refine seq_go ?_
    try simp only [go_sem]
    replace h := Option.some.inj h
    obtain rfl := h
    simp only [go_sem]
  · replace h := ifF (c := (decide (0 ≤ a0))) hb1 h
    try simp only [go_sem]
    refine seq_go ?_
    try simp only [go_sem]
    replace h := Option.some.inj h
    obtain rfl := h
    simp only [go_sem]
theorem g_IndexFunc_sint64_l1_all (n : Nat) : (∀ (a0 : List Int) (p0_0 : Int) (f1 : (Int → Option Bool)) (g1 : FuncId) (c1 : List AV) (s1 : Still c1) (h1 : ∀ (y0 : Int) (q : Bool), f1 y0 = some q → AC Tryd.prog g1 (.int .i64 y0 :: c1) (.bool q)) (r : Int), g_IndexFunc_sint64_l1 n a0 p0_0 f1 = some r → posF Tryd.prog Tryd.f80 [1, 0, 1, 0] (.int .i64 r) ⟨[(0, .ro (List.map i64D a0)), (1, .fn g1 c1), (7, .int .i64 ((List.length a0 : Nat) : Int)), (8, .int .i64 p0_0)], [], []⟩) := by
  induction n with
  | zero => exact ((fun _ _ _ _ _ _ _ _ h => by rw [g_IndexFunc_sint64_l1] at h; cases h))
  | succ n ih =>
    have ih0 := ih
    · intro a0 p0_0 f1 g1 c1 s1 h1 r h
      rw [g_IndexFunc_sint64_l1] at h
      refine posF_of rfl rfl ?_
      try simp only [go_sem, s1.k, s1.r, s1.c, s1.p]
      refine loop_i ?_
      try simp only [go_sem, s1.k, s1.r, s1.c, s1.p]
      refine cond_i (fun hb1 => ?_) (fun hb1 => ?_)
      · replace h := ifT (c := (decide (p0_0 < ((List.length a0 : Nat) : Int)))) hb1 h
        try simp only [go_sem, s1.k, s1.r, s1.c, s1.p]
        refine seq_go ?_
        try simp only [go_sem, s1.k, s1.r, s1.c, s1.p]
        replace h := bindE h
        obtain ⟨v5003, hv5003, h⟩ := h
        refine idx_m hv5003 rfl ?_
        try simp only [go_sem, s1.k, s1.r, s1.c, s1.p]
        replace h := bindE h
        obtain ⟨v5005, hv5005, h⟩ := h
        refine call_i (h1 _ _ hv5005) ?_
        try simp only [go_sem, s1.k, s1.r, s1.c, s1.p]
        refine cond_i (fun hb2 => ?_) (fun hb2 => ?_)
        · replace h := ifT (c := v5005) hb2 h
          try simp only [go_sem, s1.k, s1.r, s1.c, s1.p]
          replace h := Option.some.inj h
          obtain rfl := h
          simp only [go_sem, s1.k, s1.r, s1.c, s1.p]
        · replace h := ifF (c := v5005) hb2 h
          try simp only [go_sem, s1.k, s1.r, s1.c, s1.p]
          refine seq_go ?_
          try simp only [go_sem, s1.k, s1.r, s1.c, s1.p]
          have hj := posF_to rfl rfl (ih0 a0 (IntKind.i64.wrap (p0_0 + 1)) f1 g1 c1 s1 h1 _ h)
          refine lp_to hj (.one ⟨_, .done _, [], [], ?_⟩)
          clear hj
          try simp only [go_sem, s1.k, s1.r, s1.c, s1.p]
      · replace h := ifF (c := (decide (p0_0 < ((List.length a0 : Nat) : Int)))) hb1 h
        try simp only [go_sem, s1.k, s1.r, s1.c, s1.p]
        refine seq_go ?_
        try simp only [go_sem, s1.k, s1.r, s1.c, s1.p]
        replace h := Option.some.inj h
        obtain rfl := h
        simp only [go_sem, s1.k, s1.r, s1.c, s1.p]
theorem g_IndexFunc_sint64_l1_ok (n : Nat) : (∀ (a0 : List Int) (p0_0 : Int) (f1 : (Int → Option Bool)) (g1 : FuncId) (c1 : List AV) (s1 : Still c1) (h1 : ∀ (y0 : Int) (q : Bool), f1 y0 = some q → AC Tryd.prog g1 (.int .i64 y0 :: c1) (.bool q)) (r : Int), g_IndexFunc_sint64_l1 n a0 p0_0 f1 = some r → posF Tryd.prog Tryd.f80 [1, 0, 1, 0] (.int .i64 r) ⟨[(0, .ro (List.map i64D a0)), (1, .fn g1 c1), (7, .int .i64 ((List.length a0 : Nat) : Int)), (8, .int .i64 p0_0)], [], []⟩) := (g_IndexFunc_sint64_l1_all n)

theorem g_IndexFunc_sint64_ok (a0 : List Int) (f1 : (Int → Option Bool)) (g1 : FuncId) (c1 : List AV) (s1 : Still c1) (h1 : ∀ (y0 : Int) (q : Bool), f1 y0 = some q → AC Tryd.prog g1 (.int .i64 y0 :: c1) (.bool q)) (r : Int) (h : g_IndexFunc_sint64 a0 f1 = some r) : AC Tryd.prog 80 [.ro (List.map i64D a0), .fn g1 c1] (.int .i64 r) := by
  unfold g_IndexFunc_sint64 at h
  refine ac_fn mixed Tryd.func80 rfl rfl rfl (by kernel_rfl) (by kernel_rfl) ?_
  try simp only [go_sem, s1.k, s1.r, s1.c, s1.p]
  have hj := posF_to rfl rfl (g_IndexFunc_sint64_l1_ok fuel a0 0 f1 g1 c1 s1 h1 _ h)
  refine loop_to hj (.one ⟨_, .done _, [], [], ?_⟩)
  clear hj
  try simp only [go_sem, s1.k, s1.r, s1.c, s1.p]
theorem g_ContainsFunc_sint64_ok (a0 : List Int) (f1 : (Int → Option Bool)) (g1 : FuncId) (c1 : List AV) (s1 : Still c1) (h1 : ∀ (y0 : Int) (q : Bool), f1 y0 = some q → AC Tryd.prog g1 (.int .i64 y0 :: c1) (.bool q)) (r : Bool) (h : g_ContainsFunc_sint64 a0 f1 = some r) : AC Tryd.prog 74 [.ro (List.map i64D a0), .fn g1 c1] (.bool r) := by
  unfold g_ContainsFunc_sint64 at h
  refine ac_fn mixed Tryd.func74 rfl rfl rfl (by kernel_rfl) (by kernel_rfl) ?_
  try simp only [go_sem, s1.k, s1.r, s1.c, s1.p]
  replace h := bindE h
  obtain ⟨v2002, hv2002, h⟩ := h
  refine call_i (g_IndexFunc_sint64_ok _ _ g1 c1 s1 h1 _ hv2002) ?_
  try simp only [go_sem, s1.k, s1.r, s1.c, s1.p]
  replace h := Option.some.inj h
  obtain rfl := h
  simp only [go_sem, s1.k, s1.r, s1.c, s1.p]
theorem i_validCoreNode_1_ok (a0 : Int) (r : Bool) (h : i_validCoreNode_1 a0 = some r) : AC Tryd.prog 75 [.int .i64 a0] (.bool r) := by
  unfold i_validCoreNode_1 at h
  refine ac_fn mixed Tryd.func75 rfl rfl rfl (by kernel_rfl) (by kernel_rfl) ?_
  try simp only [go_sem]
  replace h := bindE h
  obtain ⟨v2001, hv2001, h⟩ := h
  refine call_i (i_isDefIndex_ok _ _ hv2001) ?_
  try simp only [go_sem]
  replace h := Option.some.inj h
  obtain rfl := h
  simp only [go_sem]
theorem i_validCoreNode_j3_ok (a0 : Core) (p2_0 : Bool) (p2_1 : Bool) (p2_2 : Int) (r : Bool) (h : i_validCoreNode_j3 a0 p2_0 p2_1 p2_2 = some r) : posF Tryd.prog Tryd.f62 [1, 1, 1, 1, 1] (.bool r) ⟨[(1, .box 1000002500 0), (3, .int .i64 ((List.length a0.kids : Nat) : Int)), (4, .bool p2_0), (5, .bool p2_1), (6, .int .i64 p2_2)], [], [(1000002500, some [.int .i64 a0.kind, .int .i64 a0.value, .ro (List.map i64D a0.data), .ro (List.map Core.ds a0.kids)])]⟩ := by
  unfold i_validCoreNode_j3 at h
  refine posF_of rfl rfl ?_
  try simp only [go_sem]
  refine cond_i (fun hb6 => ?_) (fun hb6 => ?_)
  · replace h := ifT (c := p2_0) hb6 h
    try simp only [go_sem]
    refine cond_i (fun hb7 => ?_) (fun hb7 => ?_)
    · replace h := ifT (c := p2_1) hb7 h
      try simp only [go_sem]
      refine cond_i (fun hb8 => ?_) (fun hb8 => ?_)
      · replace h := ifT (c := (decide (((List.length a0.kids : Nat) : Int) = p2_2))) hb8 h
        try simp only [go_sem]
        replace h := bindE h
        obtain ⟨v27012, hv27012, h⟩ := h
        refine call_i (g_ContainsFunc_sint64_ok _ _ 75 [] (Still.of rfl) (fun y0 q hq => i_validCoreNode_1_ok y0  q hq) _ hv27012) ?_
        try simp only [go_sem]
        refine seq_go ?_
        try simp only [go_sem]
        replace h := Option.some.inj h
        obtain rfl := h
        simp only [go_sem]
      · replace h := ifF (c := (decide (((List.length a0.kids : Nat) : Int) = p2_2))) hb8 h
        try simp only [go_sem]
        refine seq_go ?_
        try simp only [go_sem]
        replace h := Option.some.inj h
        obtain rfl := h
        simp only [go_sem]
    · replace h := ifF (c := p2_1) hb7 h
      try simp only [go_sem]
      refine seq_go ?_
      try simp only [go_sem]
      replace h := Option.some.inj h
      obtain rfl := h
      simp only [go_sem]
  · replace h := ifF (c := p2_0) hb6 h
    try simp only [go_sem]
    refine seq_go ?_
    try simp only [go_sem]
    replace h := Option.some.inj h
    obtain rfl := h
    simp only [go_sem]
theorem i_validCoreNode_j2_ok (a0 : Core) (p1_0 : Bool) (r : Bool) (h : i_validCoreNode_j2 a0 p1_0 = some r) : posF Tryd.prog Tryd.f62 [1, 1, 1, 1, 0, 1, 0, 1, 1, 1, 1, 1, 1, 1, 1, 1] (.bool r) ⟨[(1, .box 1000001500 0), (3, .int .i64 ((List.length a0.kids : Nat) : Int)), (5, .bool (decide (((List.length a0.data : Nat) : Int) = 0))), (6, .int .i64 0), (15, .int .i64 a0.kind), (42, .bool p1_0)], [], [(1000001500, some [.int .i64 a0.kind, .int .i64 a0.value, .ro (List.map i64D a0.data), .ro (List.map Core.ds a0.kids)])]⟩ := by
  unfold i_validCoreNode_j2 at h
  refine posF_of rfl rfl ?_
  try simp only [go_sem]
  refine cond_i (fun hb11 => ?_) (fun hb11 => ?_)
  · replace h := ifT (c := p1_0) hb11 h
    try simp only [go_sem]
    have hj := posF_to rfl rfl (i_validCoreNode_j3_ok a0 (decide (a0.value = 0)) (decide (((List.length a0.data : Nat) : Int) = 0)) 2 _ h)
    refine seq_to hj (.one ⟨_, .done _, [], [(1000002500, 1000001500)], ?_⟩)
    clear hj
    try simp only [go_sem]
  · replace h := ifF (c := p1_0) hb11 h
    try simp only [go_sem]
    refine cond_i (fun hb12 => ?_) (fun hb12 => ?_)
    · replace h := ifT (c := (decide (a0.kind = 8))) hb12 h
      try simp only [go_sem]
      refine cond_i (fun hb13 => ?_) (fun hb13 => ?_)
      · replace h := ifT (c := (decide (((List.length a0.data : Nat) : Int) = 0))) hb13 h
        try simp only [go_sem]
        refine cond_i (fun hb14 => ?_) (fun hb14 => ?_)
        · replace h := ifT (c := (decide (0 ≤ a0.value))) hb14 h
          try simp only [go_sem]
          refine cond_i (fun hb15 => ?_) (fun hb15 => ?_)
          · replace h := ifT (c := (decide (a0.value < 4))) hb15 h
            try simp only [go_sem]
            refine seq_go ?_
            try simp only [go_sem]
            replace h := Option.some.inj h
            obtain rfl := h
            simp only [go_sem]
          · replace h := ifF (c := (decide (a0.value < 4))) hb15 h
            try simp only [go_sem]
            refine seq_go ?_
            try simp only [go_sem]
            replace h := Option.some.inj h
            obtain rfl := h
            simp only [go_sem]
        · replace h := ifF (c := (decide (0 ≤ a0.value))) hb14 h
          try simp only [go_sem]
          refine seq_go ?_
          try simp only [go_sem]
          replace h := Option.some.inj h
          obtain rfl := h
          simp only [go_sem]
      · replace h := ifF (c := (decide (((List.length a0.data : Nat) : Int) = 0))) hb13 h
        try simp only [go_sem]
        refine seq_go ?_
        try simp only [go_sem]
        replace h := Option.some.inj h
        obtain rfl := h
        simp only [go_sem]
    · replace h := ifF (c := (decide (a0.kind = 8))) hb12 h
      try simp only [go_sem]
      refine cond_i (fun hb16 => ?_) (fun hb16 => ?_)
      · replace h := ifT (c := (decide (a0.kind = 9))) hb16 h
        try simp only [go_sem]
        refine draw_i [] .fin (by kernel_rfl) ?_
        try simp only [go_sem]
        refine cond_i (fun hb17 => ?_) (fun hb17 => ?_)
        · replace h := ifT (c := (decide (1 ≤ ((List.length a0.data : Nat) : Int)))) hb17 h
          try simp only [go_sem]
          have hj := posF_to rfl rfl (i_validCoreNode_j3_ok a0 (decide (a0.value = 0)) (decide (((List.length a0.data : Nat) : Int) ≤ 4)) 1 _ h)
          refine seq_to hj (.one ⟨_, .done _, [], [(1000002500, 1000001500)], ?_⟩)
          clear hj
          try simp only [go_sem]
        · replace h := ifF (c := (decide (1 ≤ ((List.length a0.data : Nat) : Int)))) hb17 h
          try simp only [go_sem]
          have hj := posF_to rfl rfl (i_validCoreNode_j3_ok a0 (decide (a0.value = 0)) false 1 _ h)
          refine seq_to hj (.one ⟨_, .done _, [], [(1000002500, 1000001500)], ?_⟩)
          clear hj
          try simp only [go_sem]
      · replace h := ifF (c := (decide (a0.kind = 9))) hb16 h
        try simp only [go_sem]
        refine cond_i (fun hb18 => ?_) (fun hb18 => ?_)
        · replace h := ifT (c := (decide (a0.kind = 10))) hb18 h
          try simp only [go_sem]
          refine draw_i [] .fin (by kernel_rfl) ?_
          try simp only [go_sem]
          have hj := posF_to rfl rfl (i_validCoreNode_j3_ok a0 (decide (a0.value = 0)) (decide (((List.length a0.data : Nat) : Int) = 2)) 1 _ h)
          refine seq_to hj (.one ⟨_, .done _, [], [(1000002500, 1000001500)], ?_⟩)
          clear hj
          try simp only [go_sem]
        · replace h := ifF (c := (decide (a0.kind = 10))) hb18 h
          try simp only [go_sem]
          refine cond_i (fun hb19 => ?_) (fun hb19 => ?_)
          · replace h := ifT (c := (decide (a0.kind = 11))) hb19 h
            try simp only [go_sem]
            replace h := bindE h
            obtain ⟨v26002, hv26002, h⟩ := h
            refine call_i (i_isDefIndex_ok _ _ hv26002) ?_
            try simp only [go_sem]
            have hj := posF_to rfl rfl (i_validCoreNode_j3_ok a0 v26002 (decide (((List.length a0.data : Nat) : Int) = 0)) 0 _ h)
            refine seq_to hj (.one ⟨_, .done _, [], [(1000002500, 1000001500)], ?_⟩)
            clear hj
            try simp only [go_sem]
          · replace h := ifF (c := (decide (a0.kind = 11))) hb19 h
            try simp only [go_sem]
            replace h := Option.some.inj h
            obtain rfl := h
            simp only [go_sem]
theorem i_validCoreNode_j1_ok (a0 : Core) (p0_0 : Bool) (r : Bool) (h : i_validCoreNode_j1 a0 p0_0 = some r) : posF Tryd.prog Tryd.f62 [1, 1, 1, 1, 0, 1, 0, 1, 1, 1, 1, 1, 1, 1] (.bool r) ⟨[(1, .box 1000000500 0), (3, .int .i64 ((List.length a0.kids : Nat) : Int)), (5, .bool (decide (((List.length a0.data : Nat) : Int) = 0))), (6, .int .i64 0), (15, .int .i64 a0.kind), (36, .bool p0_0)], [], [(1000000500, some [.int .i64 a0.kind, .int .i64 a0.value, .ro (List.map i64D a0.data), .ro (List.map Core.ds a0.kids)])]⟩ := by
  unfold i_validCoreNode_j1 at h
  refine posF_of rfl rfl ?_
  try simp only [go_sem]
  refine cond_i (fun hb9 => ?_) (fun hb9 => ?_)
  · replace h := ifT (c := p0_0) hb9 h
    try simp only [go_sem]
    have hj := posF_to rfl rfl (i_validCoreNode_j3_ok a0 (decide (a0.value = 0)) (decide (((List.length a0.data : Nat) : Int) = 0)) 1 _ h)
    refine seq_to hj (.one ⟨_, .done _, [], [(1000002500, 1000000500)], ?_⟩)
    clear hj
    try simp only [go_sem]
  · replace h := ifF (c := p0_0) hb9 h
    try simp only [go_sem]
    refine cond_i (fun hb10 => ?_) (fun hb10 => ?_)
    · replace h := ifT (c := (decide (a0.kind = 5))) hb10 h
      try simp only [go_sem]
      have hj := posF_to rfl rfl (i_validCoreNode_j2_ok a0 (decide (a0.kind = 5)) _ h)
      refine seq_to hj (.one ⟨_, .done _, [], [(1000001500, 1000000500)], ?_⟩)
      clear hj
      try simp only [go_sem]
    · replace h := ifF (c := (decide (a0.kind = 5))) hb10 h
      try simp only [go_sem]
      have hj := posF_to rfl rfl (i_validCoreNode_j2_ok a0 (decide (a0.kind = 7)) _ h)
      refine seq_to hj (.one ⟨_, .done _, [], [(1000001500, 1000000500)], ?_⟩)
      clear hj
      try simp only [go_sem]
theorem i_validCoreNode_ok (a0 : Core) (r : Bool) (h : i_validCoreNode a0 = some r) : AC Tryd.prog 62 [.agg (Core.avs a0)] (.bool r) := by
  unfold i_validCoreNode at h
  refine ac_fn mixed Tryd.func62 rfl rfl rfl (by kernel_rfl) (by kernel_rfl) ?_
  try simp only [go_sem]
  refine draw_i [] .fin (by kernel_rfl) ?_
  try simp only [go_sem]
  refine seq_go ?_
  try simp only [go_sem]
  refine cond_i (fun hb1 => ?_) (fun hb1 => ?_)
  · replace h := ifT (c := (decide (a0.kind = 1))) hb1 h
    try simp only [go_sem]
    refine cond_i (fun hb2 => ?_) (fun hb2 => ?_)
    · replace h := ifT (c := (decide (0 ≤ a0.value))) hb2 h
      try simp only [go_sem]
      have hj := posF_to rfl rfl (i_validCoreNode_j3_ok a0 (decide (a0.value ≤ 255)) (decide (((List.length a0.data : Nat) : Int) = 0)) 0 _ h)
      refine seq_to hj (.one ⟨_, .done _, [], [(1000002500, 1000)], ?_⟩)
      clear hj
      try simp only [go_sem]
    · replace h := ifF (c := (decide (0 ≤ a0.value))) hb2 h
      try simp only [go_sem]
      have hj := posF_to rfl rfl (i_validCoreNode_j3_ok a0 false (decide (((List.length a0.data : Nat) : Int) = 0)) 0 _ h)
      refine seq_to hj (.one ⟨_, .done _, [], [(1000002500, 1000)], ?_⟩)
      clear hj
      try simp only [go_sem]
  · replace h := ifF (c := (decide (a0.kind = 1))) hb1 h
    try simp only [go_sem]
    refine cond_i (fun hb3 => ?_) (fun hb3 => ?_)
    · replace h := ifT (c := (decide (a0.kind = 2))) hb3 h
      try simp only [go_sem]
      replace h := bindE h
      obtain ⟨v10002, hv10002, h⟩ := h
      refine call_i (i_isInt_ok _ _ hv10002) ?_
      try simp only [go_sem]
      have hj := posF_to rfl rfl (i_validCoreNode_j3_ok a0 v10002 (decide (((List.length a0.data : Nat) : Int) = 0)) 0 _ h)
      refine seq_to hj (.one ⟨_, .done _, [], [(1000002500, 1000)], ?_⟩)
      clear hj
      try simp only [go_sem]
    · replace h := ifF (c := (decide (a0.kind = 2))) hb3 h
      try simp only [go_sem]
      refine cond_i (fun hb4 => ?_) (fun hb4 => ?_)
      · replace h := ifT (c := (decide (a0.kind = 3))) hb4 h
        try simp only [go_sem]
        replace h := bindE h
        obtain ⟨v12002, hv12002, h⟩ := h
        refine call_i (i_isOperator_ok _ _ hv12002) ?_
        try simp only [go_sem]
        have hj := posF_to rfl rfl (i_validCoreNode_j3_ok a0 v12002 (decide (((List.length a0.data : Nat) : Int) = 0)) 2 _ h)
        refine seq_to hj (.one ⟨_, .done _, [], [(1000002500, 1000)], ?_⟩)
        clear hj
        try simp only [go_sem]
      · replace h := ifF (c := (decide (a0.kind = 3))) hb4 h
        try simp only [go_sem]
        refine cond_i (fun hb5 => ?_) (fun hb5 => ?_)
        · replace h := ifT (c := (decide (a0.kind = 4))) hb5 h
          try simp only [go_sem]
          have hj := posF_to rfl rfl (i_validCoreNode_j1_ok a0 (decide (a0.kind = 4)) _ h)
          refine seq_to hj (.one ⟨_, .done _, [], [(1000000500, 1000)], ?_⟩)
          clear hj
          try simp only [go_sem]
        · replace h := ifF (c := (decide (a0.kind = 4))) hb5 h
          try simp only [go_sem]
          have hj := posF_to rfl rfl (i_validCoreNode_j1_ok a0 (decide (a0.kind = 6)) _ h)
          refine seq_to hj (.one ⟨_, .done _, [], [(1000000500, 1000)], ?_⟩)
          clear hj
          try simp only [go_sem]
theorem i_coreShape_all (n : Nat) : (∀ (a0 : Core) (r : Int × Int × Bool), i_coreShape n a0 = some r → AC Tryd.prog 48 [.agg (Core.avs a0)] (.tup [.int .i64 r.1, .int .i64 r.2.1, .bool r.2.2])) ∧
    (∀ (a0 : Core) (p0_0 : Int) (p0_1 : Int) (p0_2 : Int) (r : Int × Int × Bool), i_coreShape_l1 n a0 p0_0 p0_1 p0_2 = some r → posF Tryd.prog Tryd.f48 [1, 1, 1, 0, 1, 0] (.tup [.int .i64 r.1, .int .i64 r.2.1, .bool r.2.2]) ⟨[(2, .int .i64 p0_0), (3, .int .i64 p0_1), (14, .ro (List.map Core.ds a0.kids)), (15, .int .i64 ((List.length a0.kids : Nat) : Int)), (16, .int .i64 p0_2)], [], []⟩) := by
  induction n with
  | zero => exact ⟨(fun _ _ h => by rw [i_coreShape] at h; cases h), (fun _ _ _ _ _ h => by rw [i_coreShape_l1] at h; cases h)⟩
  | succ n ih =>
    obtain ⟨ih0, ih1⟩ := ih
    refine ⟨?_, ?_⟩
    · intro a0 r h
      rw [i_coreShape] at h
      refine ac_fn mixed Tryd.func48 rfl rfl rfl (by kernel_rfl) (by kernel_rfl) ?_
      try simp only [go_sem]
      replace h := bindE h
      obtain ⟨v2001, hv2001, h⟩ := h
      refine call_i (i_validCoreNode_ok _ _ hv2001) ?_
      try simp only [go_sem]
      refine cond_i (fun hb1 => ?_) (fun hb1 => ?_)
      · replace h := ifT (c := (!v2001)) hb1 h
        try simp only [go_sem]
        replace h := Option.some.inj h
        obtain rfl := h
        simp only [go_sem]
      · replace h := ifF (c := (!v2001)) hb1 h
        try simp only [go_sem]
        refine seq_go ?_
        try simp only [go_sem]
        have hj := posF_to rfl rfl (ih1 a0 1 1 0 _ h)
        refine loop_to hj (.one ⟨_, .done _, [], [], ?_⟩)
        clear hj
        try simp only [go_sem]
    · intro a0 p0_0 p0_1 p0_2 r h
      rw [i_coreShape_l1] at h
      refine posF_of rfl rfl ?_
      try simp only [go_sem]
      refine loop_i ?_
      try simp only [go_sem]
      refine cond_i (fun hb2 => ?_) (fun hb2 => ?_)
      · replace h := ifT (c := (decide (p0_2 < ((List.length a0.kids : Nat) : Int)))) hb2 h
        try simp only [go_sem]
        refine seq_go ?_
        try simp only [go_sem]
        replace h := bindE h
        obtain ⟨v7000, hv7000, h⟩ := h
        refine idx_m hv7000 (Core.ds_len _) ?_
        try simp only [go_sem]
        replace h := bindE h
        obtain ⟨v8001, hv8001, h⟩ := h
        refine call_i (ih0 _ _ hv8001) ?_
        try simp only [go_sem]
        refine cond_i (fun hb3 => ?_) (fun hb3 => ?_)
        · replace h := ifT (c := (!v8001.2.2)) hb3 h
          try simp only [go_sem]
          replace h := Option.some.inj h
          obtain rfl := h
          simp only [go_sem]
        · replace h := ifF (c := (!v8001.2.2)) hb3 h
          try simp only [go_sem]
          refine seq_go ?_
          try simp only [go_sem]
          refine seq_go ?_
          try simp only [go_sem]
          have hj := posF_to rfl rfl (ih1 a0 (if p0_0 < (IntKind.i64.wrap (v8001.1 + 1)) then (IntKind.i64.wrap (v8001.1 + 1)) else p0_0) (IntKind.i64.wrap (p0_1 + v8001.2.1)) (IntKind.i64.wrap (p0_2 + 1)) _ h)
          refine lp_to hj (.one ⟨_, .done _, [], [], ?_⟩)
          clear hj
          try simp only [go_sem]
      · replace h := ifF (c := (decide (p0_2 < ((List.length a0.kids : Nat) : Int)))) hb2 h
        try simp only [go_sem]
        refine seq_go ?_
        try simp only [go_sem]
        replace h := Option.some.inj h
        obtain rfl := h
        simp only [go_sem]
theorem i_coreShape_ok (n : Nat) : (∀ (a0 : Core) (r : Int × Int × Bool), i_coreShape n a0 = some r → AC Tryd.prog 48 [.agg (Core.avs a0)] (.tup [.int .i64 r.1, .int .i64 r.2.1, .bool r.2.2])) := (i_coreShape_all n).1
theorem i_coreShape_l1_ok (n : Nat) : (∀ (a0 : Core) (p0_0 : Int) (p0_1 : Int) (p0_2 : Int) (r : Int × Int × Bool), i_coreShape_l1 n a0 p0_0 p0_1 p0_2 = some r → posF Tryd.prog Tryd.f48 [1, 1, 1, 0, 1, 0] (.tup [.int .i64 r.1, .int .i64 r.2.1, .bool r.2.2]) ⟨[(2, .int .i64 p0_0), (3, .int .i64 p0_1), (14, .ro (List.map Core.ds a0.kids)), (15, .int .i64 ((List.length a0.kids : Nat) : Int)), (16, .int .i64 p0_2)], [], []⟩) := (i_coreShape_all n).2

theorem i_coreExtent_all (n : Nat) : (∀ (a0 : Core) (r : Int × Int), i_coreExtent n a0 = some r → AC Tryd.prog 63 [.agg (Core.avs a0)] (.tup [.int .i64 r.1, .int .i64 r.2])) ∧
    (∀ (a0 : Core) (p0_0 : Int) (p0_1 : Int) (p0_2 : Int) (r : Int × Int), i_coreExtent_l1 n a0 p0_0 p0_1 p0_2 = some r → posF Tryd.prog Tryd.f63 [1, 1, 0, 1, 0] (.tup [.int .i64 r.1, .int .i64 r.2]) ⟨[(2, .int .i64 p0_0), (3, .int .i64 p0_1), (9, .ro (List.map Core.ds a0.kids)), (10, .int .i64 ((List.length a0.kids : Nat) : Int)), (11, .int .i64 p0_2)], [], []⟩) := by
  induction n with
  | zero => exact ⟨(fun _ _ h => by rw [i_coreExtent] at h; cases h), (fun _ _ _ _ _ h => by rw [i_coreExtent_l1] at h; cases h)⟩
  | succ n ih =>
    obtain ⟨ih0, ih1⟩ := ih
    refine ⟨?_, ?_⟩
    · intro a0 r h
      rw [i_coreExtent] at h
      refine ac_fn mixed Tryd.func63 rfl rfl rfl (by kernel_rfl) (by kernel_rfl) ?_
      try simp only [go_sem]
      have hj := posF_to rfl rfl (ih1 a0 1 1 0 _ h)
      refine loop_to hj (.one ⟨_, .done _, [], [], ?_⟩)
      clear hj
      try simp only [go_sem]
    · intro a0 p0_0 p0_1 p0_2 r h
      rw [i_coreExtent_l1] at h
      refine posF_of rfl rfl ?_
      try simp only [go_sem]
      refine loop_i ?_
      try simp only [go_sem]
      refine cond_i (fun hb1 => ?_) (fun hb1 => ?_)
      · replace h := ifT (c := (decide (p0_2 < ((List.length a0.kids : Nat) : Int)))) hb1 h
        try simp only [go_sem]
        refine seq_go ?_
        try simp only [go_sem]
        replace h := bindE h
        obtain ⟨v5000, hv5000, h⟩ := h
        refine idx_m hv5000 (Core.ds_len _) ?_
        try simp only [go_sem]
        replace h := bindE h
        obtain ⟨v6001, hv6001, h⟩ := h
        refine call_i (ih0 _ _ hv6001) ?_
        try simp only [go_sem]
        refine seq_go ?_
        try simp only [go_sem]
        have hj := posF_to rfl rfl (ih1 a0 (if p0_0 < (IntKind.i64.wrap (v6001.1 + 1)) then (IntKind.i64.wrap (v6001.1 + 1)) else p0_0) (IntKind.i64.wrap (p0_1 + v6001.2)) (IntKind.i64.wrap (p0_2 + 1)) _ h)
        refine lp_to hj (.one ⟨_, .done _, [], [], ?_⟩)
        clear hj
        try simp only [go_sem]
      · replace h := ifF (c := (decide (p0_2 < ((List.length a0.kids : Nat) : Int)))) hb1 h
        try simp only [go_sem]
        refine seq_go ?_
        try simp only [go_sem]
        replace h := Option.some.inj h
        obtain rfl := h
        simp only [go_sem]
theorem i_coreExtent_ok (n : Nat) : (∀ (a0 : Core) (r : Int × Int), i_coreExtent n a0 = some r → AC Tryd.prog 63 [.agg (Core.avs a0)] (.tup [.int .i64 r.1, .int .i64 r.2])) := (i_coreExtent_all n).1
theorem i_coreExtent_l1_ok (n : Nat) : (∀ (a0 : Core) (p0_0 : Int) (p0_1 : Int) (p0_2 : Int) (r : Int × Int), i_coreExtent_l1 n a0 p0_0 p0_1 p0_2 = some r → posF Tryd.prog Tryd.f63 [1, 1, 0, 1, 0] (.tup [.int .i64 r.1, .int .i64 r.2]) ⟨[(2, .int .i64 p0_0), (3, .int .i64 p0_1), (9, .ro (List.map Core.ds a0.kids)), (10, .int .i64 ((List.length a0.kids : Nat) : Int)), (11, .int .i64 p0_2)], [], []⟩) := (i_coreExtent_all n).2

theorem i_coreFits_ok (a0 : Core) (r : Bool) (h : i_coreFits a0 = some r) : AC Tryd.prog 49 [.agg (Core.avs a0)] (.bool r) := by
  unfold i_coreFits at h
  refine ac_fn mixed Tryd.func49 rfl rfl rfl (by kernel_rfl) (by kernel_rfl) ?_
  try simp only [go_sem]
  replace h := bindE h
  obtain ⟨v2001, hv2001, h⟩ := h
  refine call_i (i_coreExtent_ok fuel _ _ hv2001) ?_
  try simp only [go_sem]
  refine cond_i (fun hb1 => ?_) (fun hb1 => ?_)
  · replace h := ifT (c := (decide (v2001.1 ≤ 80))) hb1 h
    try simp only [go_sem]
    refine seq_go ?_
    try simp only [go_sem]
    replace h := Option.some.inj h
    obtain rfl := h
    simp only [go_sem]
  · replace h := ifF (c := (decide (v2001.1 ≤ 80))) hb1 h
    try simp only [go_sem]
    refine seq_go ?_
    try simp only [go_sem]
    replace h := Option.some.inj h
    obtain rfl := h
    simp only [go_sem]
theorem i_ValidCore_ok (a0 : Core) (r : Bool) (h : i_ValidCore a0 = some r) : AC Tryd.prog 39 [.agg (Core.avs a0)] (.bool r) := by
  unfold i_ValidCore at h
  refine ac_fn mixed Tryd.func39 rfl rfl rfl (by kernel_rfl) (by kernel_rfl) ?_
  try simp only [go_sem]
  replace h := bindE h
  obtain ⟨v2001, hv2001, h⟩ := h
  refine call_i (i_coreShape_ok fuel _ _ hv2001) ?_
  try simp only [go_sem]
  refine cond_i (fun hb1 => ?_) (fun hb1 => ?_)
  · replace h := ifT (c := v2001.2.2) hb1 h
    try simp only [go_sem]
    replace h := bindE h
    obtain ⟨v3003, hv3003, h⟩ := h
    refine call_i (i_coreFits_ok _ _ hv3003) ?_
    try simp only [go_sem]
    refine seq_go ?_
    try simp only [go_sem]
    replace h := Option.some.inj h
    obtain rfl := h
    simp only [go_sem]
  · replace h := ifF (c := v2001.2.2) hb1 h
    try simp only [go_sem]
    refine seq_go ?_
    try simp only [go_sem]
    replace h := Option.some.inj h
    obtain rfl := h
    simp only [go_sem]
theorem i_decimals_l1_all (n : Nat) : (∀ (a0 : List Int) (p0_0 : List ByteArray) (p0_1 : Int) (r : ByteArray), i_decimals_l1 n a0 p0_0 p0_1 = some r → posF Tryd.prog Tryd.f29 [1, 1, 0, 1, 0] (.str r) ⟨[(3, .own 1000000000), (6, .ro (List.map i64D a0)), (7, .int .i64 ((List.length a0 : Nat) : Int)), (8, .int .i64 p0_1)], [(1000000000, some ⟨List.map strD p0_0, some 1, 0⟩)], []⟩) := by
  induction n with
  | zero => exact ((fun _ _ _ _ h => by rw [i_decimals_l1] at h; cases h))
  | succ n ih =>
    have ih0 := ih
    · intro a0 p0_0 p0_1 r h
      rw [i_decimals_l1] at h
      refine posF_of rfl rfl ?_
      try simp only [go_sem]
      refine loop_i ?_
      try simp only [go_sem]
      refine cond_i (fun hb1 => ?_) (fun hb1 => ?_)
      · replace h := ifT (c := (decide (p0_1 < ((List.length a0 : Nat) : Int)))) hb1 h
        try simp only [go_sem]
        refine seq_go ?_
        try simp only [go_sem]
        replace h := bindE h
        obtain ⟨v5000, hv5000, h⟩ := h
        refine idx_m hv5000 rfl ?_
        try simp only [go_sem]
        replace h := bindE h
        obtain ⟨v6002, hv6002, h⟩ := h
        refine call_i (i_Decimal_ok _ _ hv6002) ?_
        try simp only [go_sem]
        replace h := bindE h
        obtain ⟨v6004, hv6004, h⟩ := h
        have hq_ := app_some hv6004
        obtain ⟨hv6004a, hv6004b⟩ := hq_
        refine and_i (by refine ⟨?_, ?_⟩ <;> (try simp only [List.length_map, List.length_append, List.length_cons, List.length_nil] at *) <;> (try unfold maxLen) <;> omega) ?_
        try simp only [go_sem]
        refine row_i (List.map strD v6004) (by rw [← hv6004b]; simp only [List.map_append, List.map_cons, List.map_nil, List.nil_append, List.append_nil, go_sem, slD]) ?_
        try simp only [go_sem]
        refine seq_go ?_
        try simp only [go_sem]
        have hj := posF_to rfl rfl (ih0 a0 v6004 (IntKind.i64.wrap (p0_1 + 1)) _ h)
        refine lp_to hj (.one ⟨_, .done _, [(1000000000, 96064)], [], ?_⟩)
        clear hj
        try simp only [go_sem]
      · replace h := ifF (c := (decide (p0_1 < ((List.length a0 : Nat) : Int)))) hb1 h
        try simp only [go_sem]
        refine seq_go ?_
        try simp only [go_sem]
        replace h := bindE h
        obtain ⟨v8001, hv8001, h⟩ := h
        refine call_i (g_Join_ok _ _ _ hv8001) ?_
        try simp only [go_sem]
        replace h := Option.some.inj h
        obtain rfl := h
        simp only [go_sem]
theorem i_decimals_l1_ok (n : Nat) : (∀ (a0 : List Int) (p0_0 : List ByteArray) (p0_1 : Int) (r : ByteArray), i_decimals_l1 n a0 p0_0 p0_1 = some r → posF Tryd.prog Tryd.f29 [1, 1, 0, 1, 0] (.str r) ⟨[(3, .own 1000000000), (6, .ro (List.map i64D a0)), (7, .int .i64 ((List.length a0 : Nat) : Int)), (8, .int .i64 p0_1)], [(1000000000, some ⟨List.map strD p0_0, some 1, 0⟩)], []⟩) := (i_decimals_l1_all n)

theorem i_decimals_ok (a0 : List Int) (r : ByteArray) (h : i_decimals a0 = some r) : AC Tryd.prog 29 [.ro (List.map i64D a0)] (.str r) := by
  unfold i_decimals at h
  refine ac_fn mixed Tryd.func29 rfl rfl rfl (by kernel_rfl) (by kernel_rfl) ?_
  try simp only [go_sem]
  have hj := posF_to rfl rfl (i_decimals_l1_ok fuel a0 [] 0 _ h)
  refine loop_to hj (.one ⟨_, .slot 3 2000000000 (some 1) (by simp only [go_sem]) (by simp only [go_sem]) (.done _), [(1000000000, 2000000000)], [], ?_⟩)
  clear hj
  simp only [go_sem]
  all_goals try rfl
theorem i_OperatorText_ok (a0 : Int) (r : ByteArray) (h : i_OperatorText a0 = some r) : AC Tryd.prog 50 [.int .i64 a0] (.str r) := by
  unfold i_OperatorText at h
  refine ac_fn mixed Tryd.func50 rfl rfl rfl (by kernel_rfl) (by kernel_rfl) ?_
  try simp only [go_sem]
  replace h := bindE h
  obtain ⟨v2001, hv2001, h⟩ := h
  refine call_i (i_isOperator_ok _ _ hv2001) ?_
  try simp only [go_sem]
  refine cond_i (fun hb1 => ?_) (fun hb1 => ?_)
  · replace h := ifT (c := (!v2001)) hb1 h
    try simp only [go_sem]
    replace h := Option.some.inj h
    obtain rfl := h
    simp only [go_sem]
  · replace h := ifF (c := (!v2001)) hb1 h
    try simp only [go_sem]
    refine seq_go ?_
    try simp only [go_sem]
    replace h := bindE h
    obtain ⟨v4003, hv4003, h⟩ := h
    refine opt_i hv4003 ?_
    try simp only [go_sem]
    replace h := Option.some.inj h
    obtain rfl := h
    simp only [go_sem]
theorem i_coreText_all (n : Nat) : (∀ (a0 : Core) (r : ByteArray), i_coreText n a0 = some r → AC Tryd.prog 40 [.agg (Core.avs a0)] (.str r)) ∧
    (∀ (a0 : Core) (p1_0 : List ByteArray) (p1_1 : Int) (r : ByteArray), i_coreText_l2 n a0 p1_0 p1_1 = some r → posF Tryd.prog Tryd.f40 [1, 1, 0, 1, 0] (.str r) ⟨[(1, .box 1000001500 0), (3, .own 1000001000), (7, .ro (List.map Core.ds a0.kids)), (8, .int .i64 ((List.length a0.kids : Nat) : Int)), (9, .int .i64 p1_1)], [(1000001000, some ⟨List.map strD p1_0, some 1, 0⟩)], [(1000001500, some [.int .i64 a0.kind, .int .i64 a0.value, .ro (List.map i64D a0.data), .ro (List.map Core.ds a0.kids)])]⟩) := by
  induction n with
  | zero => exact ⟨(fun _ _ h => by rw [i_coreText] at h; cases h), (fun _ _ _ _ h => by rw [i_coreText_l2] at h; cases h)⟩
  | succ n ih =>
    obtain ⟨ih0, ih1⟩ := ih
    refine ⟨?_, ?_⟩
    · intro a0 r h
      rw [i_coreText] at h
      refine ac_fn mixed Tryd.func40 rfl rfl rfl (by kernel_rfl) (by kernel_rfl) ?_
      try simp only [go_sem]
      have hj := posF_to rfl rfl (ih1 a0 [] 0 _ h)
      refine loop_to hj (.one ⟨_, .slot 3 2000000000 (some 1) (by simp only [go_sem]) (by simp only [go_sem]) (.done _), [(1000001000, 2000000000)], [(1000001500, 1000)], ?_⟩)
      clear hj
      simp only [go_sem]
      all_goals try rfl
    · intro a0 p1_0 p1_1 r h
      rw [i_coreText_l2] at h
      refine posF_of rfl rfl ?_
      try simp only [go_sem]
      refine loop_i ?_
      try simp only [go_sem]
      refine cond_i (fun hb1 => ?_) (fun hb1 => ?_)
      · replace h := ifT (c := (decide (p1_1 < ((List.length a0.kids : Nat) : Int)))) hb1 h
        try simp only [go_sem]
        refine seq_go ?_
        try simp only [go_sem]
        replace h := bindE h
        obtain ⟨v5000, hv5000, h⟩ := h
        refine idx_m hv5000 (Core.ds_len _) ?_
        try simp only [go_sem]
        replace h := bindE h
        obtain ⟨v6002, hv6002, h⟩ := h
        refine call_i (ih0 _ _ hv6002) ?_
        try simp only [go_sem]
        replace h := bindE h
        obtain ⟨v6004, hv6004, h⟩ := h
        have hq_ := app_some hv6004
        obtain ⟨hv6004a, hv6004b⟩ := hq_
        refine and_i (by refine ⟨?_, ?_⟩ <;> (try simp only [List.length_map, List.length_append, List.length_cons, List.length_nil] at *) <;> (try unfold maxLen) <;> omega) ?_
        try simp only [go_sem]
        refine row_i (List.map strD v6004) (by rw [← hv6004b]; simp only [List.map_append, List.map_cons, List.map_nil, List.nil_append, List.append_nil, go_sem, slD]) ?_
        try simp only [go_sem]
        refine seq_go ?_
        try simp only [go_sem]
        have hj := posF_to rfl rfl (ih1 a0 v6004 (IntKind.i64.wrap (p1_1 + 1)) _ h)
        refine lp_to hj (.one ⟨_, .done _, [(1000001000, 96064)], [(1000001500, 1000001500)], ?_⟩)
        clear hj
        try simp only [go_sem]
      · replace h := ifF (c := (decide (p1_1 < ((List.length a0.kids : Nat) : Int)))) hb1 h
        try simp only [go_sem]
        refine seq_go ?_
        try simp only [go_sem]
        refine cond_i (fun hb2 => ?_) (fun hb2 => ?_)
        · replace h := ifT (c := (decide (a0.kind = 1))) hb2 h
          try simp only [go_sem]
          replace h := bindE h
          obtain ⟨v10002, hv10002, h⟩ := h
          refine call_i (i_Decimal_ok _ _ hv10002) ?_
          try simp only [go_sem]
          replace h := bindE h
          obtain ⟨v10003, hv10003, h⟩ := h
          have hq_ := sapp_some hv10003
          obtain ⟨hv10003a, hv10003b⟩ := hq_
          refine and_i hv10003a ?_
          rw [hv10003b]
          try simp only [go_sem]
          replace h := Option.some.inj h
          obtain rfl := h
          simp only [go_sem]
        · replace h := ifF (c := (decide (a0.kind = 1))) hb2 h
          try simp only [go_sem]
          refine cond_i (fun hb3 => ?_) (fun hb3 => ?_)
          · replace h := ifT (c := (decide (a0.kind = 3))) hb3 h
            try simp only [go_sem]
            refine draw_i [] .fin (by kernel_rfl) ?_
            try simp only [go_sem]
            replace h := bindE h
            obtain ⟨v12001, hv12001, h⟩ := h
            refine idx_m hv12001 rfl ?_
            try simp only [go_sem]
            refine opt_i (row_m hv12001) ?_
            try simp only [go_sem]
            replace h := bindE h
            obtain ⟨v12003, hv12003, h⟩ := h
            have hq_ := sapp_some hv12003
            obtain ⟨hv12003a, hv12003b⟩ := hq_
            refine and_i hv12003a ?_
            rw [hv12003b]
            try simp only [go_sem]
            replace h := bindE h
            obtain ⟨v12004, hv12004, h⟩ := h
            have hq_ := sapp_some hv12004
            obtain ⟨hv12004a, hv12004b⟩ := hq_
            refine and_i hv12004a ?_
            rw [hv12004b]
            try simp only [go_sem]
            replace h := bindE h
            obtain ⟨v12007, hv12007, h⟩ := h
            refine call_i (i_OperatorText_ok _ _ hv12007) ?_
            try simp only [go_sem]
            replace h := bindE h
            obtain ⟨v12008, hv12008, h⟩ := h
            have hq_ := sapp_some hv12008
            obtain ⟨hv12008a, hv12008b⟩ := hq_
            refine and_i hv12008a ?_
            rw [hv12008b]
            try simp only [go_sem]
            replace h := bindE h
            obtain ⟨v12009, hv12009, h⟩ := h
            have hq_ := sapp_some hv12009
            obtain ⟨hv12009a, hv12009b⟩ := hq_
            refine and_i hv12009a ?_
            rw [hv12009b]
            try simp only [go_sem]
            replace h := bindE h
            obtain ⟨v12011, hv12011, h⟩ := h
            refine idx_m hv12011 rfl ?_
            try simp only [go_sem]
            refine opt_i (row_m hv12011) ?_
            try simp only [go_sem]
            replace h := bindE h
            obtain ⟨v12013, hv12013, h⟩ := h
            have hq_ := sapp_some hv12013
            obtain ⟨hv12013a, hv12013b⟩ := hq_
            refine and_i hv12013a ?_
            rw [hv12013b]
            try simp only [go_sem]
            replace h := bindE h
            obtain ⟨v12014, hv12014, h⟩ := h
            have hq_ := sapp_some hv12014
            obtain ⟨hv12014a, hv12014b⟩ := hq_
            refine and_i hv12014a ?_
            rw [hv12014b]
            try simp only [go_sem]
            refine seq_go ?_
            try simp only [go_sem]
            replace h := Option.some.inj h
            obtain rfl := h
            simp only [go_sem]
          · replace h := ifF (c := (decide (a0.kind = 3))) hb3 h
            try simp only [go_sem]
            refine cond_i (fun hb4 => ?_) (fun hb4 => ?_)
            · replace h := ifT (c := (decide (a0.kind = 4))) hb4 h
              try simp only [go_sem]
              replace h := bindE h
              obtain ⟨v14001, hv14001, h⟩ := h
              refine idx_m hv14001 rfl ?_
              try simp only [go_sem]
              refine opt_i (row_m hv14001) ?_
              try simp only [go_sem]
              replace h := bindE h
              obtain ⟨v14003, hv14003, h⟩ := h
              have hq_ := sapp_some hv14003
              obtain ⟨hv14003a, hv14003b⟩ := hq_
              refine and_i hv14003a ?_
              rw [hv14003b]
              try simp only [go_sem]
              replace h := Option.some.inj h
              obtain rfl := h
              simp only [go_sem]
            · replace h := ifF (c := (decide (a0.kind = 4))) hb4 h
              try simp only [go_sem]
              refine cond_i (fun hb5 => ?_) (fun hb5 => ?_)
              · replace h := ifT (c := (decide (a0.kind = 5))) hb5 h
                try simp only [go_sem]
                refine draw_i [] .fin (by kernel_rfl) ?_
                try simp only [go_sem]
                replace h := bindE h
                obtain ⟨v16001, hv16001, h⟩ := h
                refine idx_m hv16001 rfl ?_
                try simp only [go_sem]
                refine opt_i (row_m hv16001) ?_
                try simp only [go_sem]
                replace h := bindE h
                obtain ⟨v16003, hv16003, h⟩ := h
                have hq_ := sapp_some hv16003
                obtain ⟨hv16003a, hv16003b⟩ := hq_
                refine and_i hv16003a ?_
                rw [hv16003b]
                try simp only [go_sem]
                replace h := bindE h
                obtain ⟨v16004, hv16004, h⟩ := h
                have hq_ := sapp_some hv16004
                obtain ⟨hv16004a, hv16004b⟩ := hq_
                refine and_i hv16004a ?_
                rw [hv16004b]
                try simp only [go_sem]
                replace h := bindE h
                obtain ⟨v16006, hv16006, h⟩ := h
                refine idx_m hv16006 rfl ?_
                try simp only [go_sem]
                refine opt_i (row_m hv16006) ?_
                try simp only [go_sem]
                replace h := bindE h
                obtain ⟨v16008, hv16008, h⟩ := h
                have hq_ := sapp_some hv16008
                obtain ⟨hv16008a, hv16008b⟩ := hq_
                refine and_i hv16008a ?_
                rw [hv16008b]
                try simp only [go_sem]
                replace h := bindE h
                obtain ⟨v16009, hv16009, h⟩ := h
                have hq_ := sapp_some hv16009
                obtain ⟨hv16009a, hv16009b⟩ := hq_
                refine and_i hv16009a ?_
                rw [hv16009b]
                try simp only [go_sem]
                refine seq_go ?_
                try simp only [go_sem]
                replace h := Option.some.inj h
                obtain rfl := h
                simp only [go_sem]
              · replace h := ifF (c := (decide (a0.kind = 5))) hb5 h
                try simp only [go_sem]
                refine cond_i (fun hb6 => ?_) (fun hb6 => ?_)
                · replace h := ifT (c := (decide (a0.kind = 6))) hb6 h
                  try simp only [go_sem]
                  replace h := bindE h
                  obtain ⟨v18001, hv18001, h⟩ := h
                  refine idx_m hv18001 rfl ?_
                  try simp only [go_sem]
                  refine opt_i (row_m hv18001) ?_
                  try simp only [go_sem]
                  replace h := bindE h
                  obtain ⟨v18003, hv18003, h⟩ := h
                  have hq_ := sapp_some hv18003
                  obtain ⟨hv18003a, hv18003b⟩ := hq_
                  refine and_i hv18003a ?_
                  rw [hv18003b]
                  try simp only [go_sem]
                  replace h := Option.some.inj h
                  obtain rfl := h
                  simp only [go_sem]
                · replace h := ifF (c := (decide (a0.kind = 6))) hb6 h
                  try simp only [go_sem]
                  refine cond_i (fun hb7 => ?_) (fun hb7 => ?_)
                  · replace h := ifT (c := (decide (a0.kind = 7))) hb7 h
                    try simp only [go_sem]
                    refine draw_i [] .fin (by kernel_rfl) ?_
                    try simp only [go_sem]
                    replace h := bindE h
                    obtain ⟨v20001, hv20001, h⟩ := h
                    refine idx_m hv20001 rfl ?_
                    try simp only [go_sem]
                    refine opt_i (row_m hv20001) ?_
                    try simp only [go_sem]
                    replace h := bindE h
                    obtain ⟨v20003, hv20003, h⟩ := h
                    have hq_ := sapp_some hv20003
                    obtain ⟨hv20003a, hv20003b⟩ := hq_
                    refine and_i hv20003a ?_
                    rw [hv20003b]
                    try simp only [go_sem]
                    replace h := bindE h
                    obtain ⟨v20004, hv20004, h⟩ := h
                    have hq_ := sapp_some hv20004
                    obtain ⟨hv20004a, hv20004b⟩ := hq_
                    refine and_i hv20004a ?_
                    rw [hv20004b]
                    try simp only [go_sem]
                    replace h := bindE h
                    obtain ⟨v20006, hv20006, h⟩ := h
                    refine idx_m hv20006 rfl ?_
                    try simp only [go_sem]
                    refine opt_i (row_m hv20006) ?_
                    try simp only [go_sem]
                    replace h := bindE h
                    obtain ⟨v20008, hv20008, h⟩ := h
                    have hq_ := sapp_some hv20008
                    obtain ⟨hv20008a, hv20008b⟩ := hq_
                    refine and_i hv20008a ?_
                    rw [hv20008b]
                    try simp only [go_sem]
                    replace h := bindE h
                    obtain ⟨v20009, hv20009, h⟩ := h
                    have hq_ := sapp_some hv20009
                    obtain ⟨hv20009a, hv20009b⟩ := hq_
                    refine and_i hv20009a ?_
                    rw [hv20009b]
                    try simp only [go_sem]
                    refine seq_go ?_
                    try simp only [go_sem]
                    replace h := Option.some.inj h
                    obtain rfl := h
                    simp only [go_sem]
                  · replace h := ifF (c := (decide (a0.kind = 7))) hb7 h
                    try simp only [go_sem]
                    refine cond_i (fun hb8 => ?_) (fun hb8 => ?_)
                    · replace h := ifT (c := (decide (a0.kind = 8))) hb8 h
                      try simp only [go_sem]
                      replace h := bindE h
                      obtain ⟨v22002, hv22002, h⟩ := h
                      refine call_i (i_Decimal_ok _ _ hv22002) ?_
                      try simp only [go_sem]
                      replace h := bindE h
                      obtain ⟨v22005, hv22005, h⟩ := h
                      have hq_ := app_some hv22005
                      obtain ⟨hv22005a, hv22005b⟩ := hq_
                      refine and_i (len_rows_of (by intro x; rfl) _) ?_
                      try simp only [go_sem]
                      refine and_i (by refine ⟨?_, ?_⟩ <;> (try simp only [List.length_map, List.length_append, List.length_cons, List.length_nil] at *) <;> (try unfold maxLen) <;> omega) ?_
                      try simp only [go_sem]
                      refine row_i (List.map strD v22005) (by rw [← hv22005b]; simp only [List.map_append, List.map_cons, List.map_nil, List.nil_append, List.append_nil, go_sem, slD]) ?_
                      try simp only [go_sem]
                      replace h := bindE h
                      obtain ⟨v22006, hv22006, h⟩ := h
                      refine call_i (g_Join_ok _ _ _ hv22006) ?_
                      try simp only [go_sem]
                      replace h := bindE h
                      obtain ⟨v22007, hv22007, h⟩ := h
                      have hq_ := sapp_some hv22007
                      obtain ⟨hv22007a, hv22007b⟩ := hq_
                      refine and_i hv22007a ?_
                      rw [hv22007b]
                      try simp only [go_sem]
                      replace h := bindE h
                      obtain ⟨v22008, hv22008, h⟩ := h
                      have hq_ := sapp_some hv22008
                      obtain ⟨hv22008a, hv22008b⟩ := hq_
                      refine and_i hv22008a ?_
                      rw [hv22008b]
                      try simp only [go_sem]
                      replace h := Option.some.inj h
                      obtain rfl := h
                      simp only [go_sem]
                    · replace h := ifF (c := (decide (a0.kind = 8))) hb8 h
                      try simp only [go_sem]
                      refine cond_i (fun hb9 => ?_) (fun hb9 => ?_)
                      · replace h := ifT (c := (decide (a0.kind = 9))) hb9 h
                        try simp only [go_sem]
                        refine draw_i [] .fin (by kernel_rfl) ?_
                        try simp only [go_sem]
                        replace h := bindE h
                        obtain ⟨v24002, hv24002, h⟩ := h
                        refine call_i (i_decimals_ok _ _ hv24002) ?_
                        try simp only [go_sem]
                        replace h := bindE h
                        obtain ⟨v24003, hv24003, h⟩ := h
                        have hq_ := sapp_some hv24003
                        obtain ⟨hv24003a, hv24003b⟩ := hq_
                        refine and_i hv24003a ?_
                        rw [hv24003b]
                        try simp only [go_sem]
                        replace h := bindE h
                        obtain ⟨v24004, hv24004, h⟩ := h
                        have hq_ := sapp_some hv24004
                        obtain ⟨hv24004a, hv24004b⟩ := hq_
                        refine and_i hv24004a ?_
                        rw [hv24004b]
                        try simp only [go_sem]
                        replace h := bindE h
                        obtain ⟨v24006, hv24006, h⟩ := h
                        refine idx_m hv24006 rfl ?_
                        try simp only [go_sem]
                        refine opt_i (row_m hv24006) ?_
                        try simp only [go_sem]
                        replace h := bindE h
                        obtain ⟨v24008, hv24008, h⟩ := h
                        have hq_ := sapp_some hv24008
                        obtain ⟨hv24008a, hv24008b⟩ := hq_
                        refine and_i hv24008a ?_
                        rw [hv24008b]
                        try simp only [go_sem]
                        replace h := bindE h
                        obtain ⟨v24009, hv24009, h⟩ := h
                        have hq_ := sapp_some hv24009
                        obtain ⟨hv24009a, hv24009b⟩ := hq_
                        refine and_i hv24009a ?_
                        rw [hv24009b]
                        try simp only [go_sem]
                        refine seq_go ?_
                        try simp only [go_sem]
                        replace h := Option.some.inj h
                        obtain rfl := h
                        simp only [go_sem]
                      · replace h := ifF (c := (decide (a0.kind = 9))) hb9 h
                        try simp only [go_sem]
                        refine cond_i (fun hb10 => ?_) (fun hb10 => ?_)
                        · replace h := ifT (c := (decide (a0.kind = 10))) hb10 h
                          try simp only [go_sem]
                          refine draw_i [] .fin (by kernel_rfl) ?_
                          try simp only [go_sem]
                          replace h := bindE h
                          obtain ⟨v26002, hv26002, h⟩ := h
                          refine call_i (i_decimals_ok _ _ hv26002) ?_
                          try simp only [go_sem]
                          replace h := bindE h
                          obtain ⟨v26003, hv26003, h⟩ := h
                          have hq_ := sapp_some hv26003
                          obtain ⟨hv26003a, hv26003b⟩ := hq_
                          refine and_i hv26003a ?_
                          rw [hv26003b]
                          try simp only [go_sem]
                          replace h := bindE h
                          obtain ⟨v26004, hv26004, h⟩ := h
                          have hq_ := sapp_some hv26004
                          obtain ⟨hv26004a, hv26004b⟩ := hq_
                          refine and_i hv26004a ?_
                          rw [hv26004b]
                          try simp only [go_sem]
                          replace h := bindE h
                          obtain ⟨v26006, hv26006, h⟩ := h
                          refine idx_m hv26006 rfl ?_
                          try simp only [go_sem]
                          refine opt_i (row_m hv26006) ?_
                          try simp only [go_sem]
                          replace h := bindE h
                          obtain ⟨v26008, hv26008, h⟩ := h
                          have hq_ := sapp_some hv26008
                          obtain ⟨hv26008a, hv26008b⟩ := hq_
                          refine and_i hv26008a ?_
                          rw [hv26008b]
                          try simp only [go_sem]
                          replace h := bindE h
                          obtain ⟨v26009, hv26009, h⟩ := h
                          have hq_ := sapp_some hv26009
                          obtain ⟨hv26009a, hv26009b⟩ := hq_
                          refine and_i hv26009a ?_
                          rw [hv26009b]
                          try simp only [go_sem]
                          refine seq_go ?_
                          try simp only [go_sem]
                          replace h := Option.some.inj h
                          obtain rfl := h
                          simp only [go_sem]
                        · replace h := ifF (c := (decide (a0.kind = 10))) hb10 h
                          try simp only [go_sem]
                          refine cond_i (fun hb11 => ?_) (fun hb11 => ?_)
                          · replace h := ifT (c := (decide (a0.kind = 11))) hb11 h
                            try simp only [go_sem]
                            replace h := bindE h
                            obtain ⟨v28002, hv28002, h⟩ := h
                            refine call_i (i_Decimal_ok _ _ hv28002) ?_
                            try simp only [go_sem]
                            replace h := bindE h
                            obtain ⟨v28003, hv28003, h⟩ := h
                            have hq_ := sapp_some hv28003
                            obtain ⟨hv28003a, hv28003b⟩ := hq_
                            refine and_i hv28003a ?_
                            rw [hv28003b]
                            try simp only [go_sem]
                            replace h := Option.some.inj h
                            obtain rfl := h
                            simp only [go_sem]
                          · replace h := ifF (c := (decide (a0.kind = 11))) hb11 h
                            try simp only [go_sem]
                            refine seq_go ?_
                            try simp only [go_sem]
                            replace h := bindE h
                            obtain ⟨v29002, hv29002, h⟩ := h
                            refine call_i (i_Decimal_ok _ _ hv29002) ?_
                            try simp only [go_sem]
                            replace h := Option.some.inj h
                            obtain rfl := h
                            simp only [go_sem]
theorem i_coreText_ok (n : Nat) : (∀ (a0 : Core) (r : ByteArray), i_coreText n a0 = some r → AC Tryd.prog 40 [.agg (Core.avs a0)] (.str r)) := (i_coreText_all n).1
theorem i_coreText_l2_ok (n : Nat) : (∀ (a0 : Core) (p1_0 : List ByteArray) (p1_1 : Int) (r : ByteArray), i_coreText_l2 n a0 p1_0 p1_1 = some r → posF Tryd.prog Tryd.f40 [1, 1, 0, 1, 0] (.str r) ⟨[(1, .box 1000001500 0), (3, .own 1000001000), (7, .ro (List.map Core.ds a0.kids)), (8, .int .i64 ((List.length a0.kids : Nat) : Int)), (9, .int .i64 p1_1)], [(1000001000, some ⟨List.map strD p1_0, some 1, 0⟩)], [(1000001500, some [.int .i64 a0.kind, .int .i64 a0.value, .ro (List.map i64D a0.data), .ro (List.map Core.ds a0.kids)])]⟩) := (i_coreText_all n).2

theorem i_CoreText_ok (a0 : Core) (r : ByteArray) (h : i_CoreText a0 = some r) : AC Tryd.prog 28 [.agg (Core.avs a0)] (.str r) := by
  unfold i_CoreText at h
  refine ac_fn mixed Tryd.func28 rfl rfl rfl (by kernel_rfl) (by kernel_rfl) ?_
  try simp only [go_sem]
  replace h := bindE h
  obtain ⟨v2001, hv2001, h⟩ := h
  refine call_i (i_ValidCore_ok _ _ hv2001) ?_
  try simp only [go_sem]
  refine cond_i (fun hb1 => ?_) (fun hb1 => ?_)
  · replace h := ifT (c := (!v2001)) hb1 h
    try simp only [go_sem]
    replace h := Option.some.inj h
    obtain rfl := h
    simp only [go_sem]
  · replace h := ifF (c := (!v2001)) hb1 h
    try simp only [go_sem]
    refine seq_go ?_
    try simp only [go_sem]
    replace h := bindE h
    obtain ⟨v4001, hv4001, h⟩ := h
    refine call_i (i_coreText_ok fuel _ _ hv4001) ?_
    try simp only [go_sem]
    replace h := Option.some.inj h
    obtain rfl := h
    simp only [go_sem]
theorem s_l06Shape_j3_ok (a0 : Int) (p2_0 : Bool) (r : Int × Int × Int × Int) (h : s_l06Shape_j3 a0 p2_0 = some r) : posF Tryd.prog Tryd.f58 [1, 0, 1, 0, 1, 1, 1, 1, 1] (.tup [.int .i64 r.1, .int .i64 r.2.1, .int .i64 r.2.2.1, .int .i64 r.2.2.2]) ⟨[(6, .int .i64 a0), (15, .bool p2_0)], [], []⟩ := by
  unfold s_l06Shape_j3 at h
  refine posF_of rfl rfl ?_
  try simp only [go_sem]
  refine cond_i (fun hb8 => ?_) (fun hb8 => ?_)
  · replace h := ifT (c := p2_0) hb8 h
    try simp only [go_sem]
    replace h := Option.some.inj h
    obtain rfl := h
    simp only [go_sem]
  · replace h := ifF (c := p2_0) hb8 h
    try simp only [go_sem]
    refine cond_i (fun hb9 => ?_) (fun hb9 => ?_)
    · replace h := ifT (c := (decide (a0 = 8))) hb9 h
      try simp only [go_sem]
      replace h := Option.some.inj h
      obtain rfl := h
      simp only [go_sem]
    · replace h := ifF (c := (decide (a0 = 8))) hb9 h
      try simp only [go_sem]
      refine cond_i (fun hb10 => ?_) (fun hb10 => ?_)
      · replace h := ifT (c := (decide (a0 = 9))) hb10 h
        try simp only [go_sem]
        replace h := Option.some.inj h
        obtain rfl := h
        simp only [go_sem]
      · replace h := ifF (c := (decide (a0 = 9))) hb10 h
        try simp only [go_sem]
        refine cond_i (fun hb11 => ?_) (fun hb11 => ?_)
        · replace h := ifT (c := (decide (a0 = 10))) hb11 h
          try simp only [go_sem]
          replace h := Option.some.inj h
          obtain rfl := h
          simp only [go_sem]
        · replace h := ifF (c := (decide (a0 = 10))) hb11 h
          try simp only [go_sem]
          refine seq_go ?_
          try simp only [go_sem]
          replace h := Option.some.inj h
          obtain rfl := h
          simp only [go_sem]
theorem s_l06Shape_j2_ok (a0 : Int) (p1_0 : Bool) (r : Int × Int × Int × Int) (h : s_l06Shape_j2 a0 p1_0 = some r) : posF Tryd.prog Tryd.f58 [1, 0, 1, 0, 1, 1, 1] (.tup [.int .i64 r.1, .int .i64 r.2.1, .int .i64 r.2.2.1, .int .i64 r.2.2.2]) ⟨[(6, .int .i64 a0), (11, .bool p1_0)], [], []⟩ := by
  unfold s_l06Shape_j2 at h
  refine posF_of rfl rfl ?_
  try simp only [go_sem]
  refine cond_i (fun hb6 => ?_) (fun hb6 => ?_)
  · replace h := ifT (c := p1_0) hb6 h
    try simp only [go_sem]
    replace h := Option.some.inj h
    obtain rfl := h
    simp only [go_sem]
  · replace h := ifF (c := p1_0) hb6 h
    try simp only [go_sem]
    refine cond_i (fun hb7 => ?_) (fun hb7 => ?_)
    · replace h := ifT (c := (decide (a0 = 4))) hb7 h
      try simp only [go_sem]
      have hj := posF_to rfl rfl (s_l06Shape_j3_ok a0 (decide (a0 = 4)) _ h)
      refine seq_to hj (.one ⟨_, .done _, [], [], ?_⟩)
      clear hj
      try simp only [go_sem]
    · replace h := ifF (c := (decide (a0 = 4))) hb7 h
      try simp only [go_sem]
      have hj := posF_to rfl rfl (s_l06Shape_j3_ok a0 (decide (a0 = 6)) _ h)
      refine seq_to hj (.one ⟨_, .done _, [], [], ?_⟩)
      clear hj
      try simp only [go_sem]
theorem s_l06Shape_j1_ok (a0 : Int) (p0_0 : Bool) (r : Int × Int × Int × Int) (h : s_l06Shape_j1 a0 p0_0 = some r) : posF Tryd.prog Tryd.f58 [1, 0, 1, 0, 1] (.tup [.int .i64 r.1, .int .i64 r.2.1, .int .i64 r.2.2.1, .int .i64 r.2.2.2]) ⟨[(6, .int .i64 a0), (7, .bool p0_0)], [], []⟩ := by
  unfold s_l06Shape_j1 at h
  refine posF_of rfl rfl ?_
  try simp only [go_sem]
  refine cond_i (fun hb3 => ?_) (fun hb3 => ?_)
  · replace h := ifT (c := p0_0) hb3 h
    try simp only [go_sem]
    replace h := Option.some.inj h
    obtain rfl := h
    simp only [go_sem]
  · replace h := ifF (c := p0_0) hb3 h
    try simp only [go_sem]
    refine cond_i (fun hb4 => ?_) (fun hb4 => ?_)
    · replace h := ifT (c := (decide (a0 = 3))) hb4 h
      try simp only [go_sem]
      have hj := posF_to rfl rfl (s_l06Shape_j2_ok a0 (decide (a0 = 3)) _ h)
      refine seq_to hj (.one ⟨_, .done _, [], [], ?_⟩)
      clear hj
      try simp only [go_sem]
    · replace h := ifF (c := (decide (a0 = 3))) hb4 h
      try simp only [go_sem]
      refine cond_i (fun hb5 => ?_) (fun hb5 => ?_)
      · replace h := ifT (c := (decide (a0 = 5))) hb5 h
        try simp only [go_sem]
        have hj := posF_to rfl rfl (s_l06Shape_j2_ok a0 (decide (a0 = 5)) _ h)
        refine seq_to hj (.one ⟨_, .done _, [], [], ?_⟩)
        clear hj
        try simp only [go_sem]
      · replace h := ifF (c := (decide (a0 = 5))) hb5 h
        try simp only [go_sem]
        have hj := posF_to rfl rfl (s_l06Shape_j2_ok a0 (decide (a0 = 7)) _ h)
        refine seq_to hj (.one ⟨_, .done _, [], [], ?_⟩)
        clear hj
        try simp only [go_sem]
theorem s_l06Shape_ok (a0 : Int) (r : Int × Int × Int × Int) (h : s_l06Shape a0 = some r) : AC Tryd.prog 58 [.int .i64 a0] (.tup [.int .i64 r.1, .int .i64 r.2.1, .int .i64 r.2.2.1, .int .i64 r.2.2.2]) := by
  unfold s_l06Shape at h
  refine ac_fn mixed Tryd.func58 rfl rfl rfl (by kernel_rfl) (by kernel_rfl) ?_
  try simp only [go_sem]
  refine cond_i (fun hb1 => ?_) (fun hb1 => ?_)
  · replace h := ifT (c := (decide (a0 = 1))) hb1 h
    try simp only [go_sem]
    have hj := posF_to rfl rfl (s_l06Shape_j1_ok a0 (decide (a0 = 1)) _ h)
    refine seq_to hj (.one ⟨_, .done _, [], [], ?_⟩)
    clear hj
    try simp only [go_sem]
  · replace h := ifF (c := (decide (a0 = 1))) hb1 h
    try simp only [go_sem]
    refine cond_i (fun hb2 => ?_) (fun hb2 => ?_)
    · replace h := ifT (c := (decide (a0 = 2))) hb2 h
      try simp only [go_sem]
      have hj := posF_to rfl rfl (s_l06Shape_j1_ok a0 (decide (a0 = 2)) _ h)
      refine seq_to hj (.one ⟨_, .done _, [], [], ?_⟩)
      clear hj
      try simp only [go_sem]
    · replace h := ifF (c := (decide (a0 = 2))) hb2 h
      try simp only [go_sem]
      have hj := posF_to rfl rfl (s_l06Shape_j1_ok a0 (decide (a0 = 11)) _ h)
      refine seq_to hj (.one ⟨_, .done _, [], [], ?_⟩)
      clear hj
      try simp only [go_sem]
theorem s_l00In_ok (a0 : Int) (a1 : Int) (a2 : Int) (r : Bool) (h : s_l00In a0 a1 a2 = some r) : AC Tryd.prog 59 [.int .i64 a0, .int .i64 a1, .int .i64 a2] (.bool r) := by
  unfold s_l00In at h
  refine ac_fn mixed Tryd.func59 rfl rfl rfl (by kernel_rfl) (by kernel_rfl) ?_
  try simp only [go_sem]
  refine cond_i (fun hb1 => ?_) (fun hb1 => ?_)
  · replace h := ifT (c := (decide (a1 ≤ a0))) hb1 h
    try simp only [go_sem]
    refine seq_go ?_
    try simp only [go_sem]
    replace h := Option.some.inj h
    obtain rfl := h
    simp only [go_sem]
  · replace h := ifF (c := (decide (a1 ≤ a0))) hb1 h
    try simp only [go_sem]
    refine seq_go ?_
    try simp only [go_sem]
    replace h := Option.some.inj h
    obtain rfl := h
    simp only [go_sem]
theorem s_l06Value_ok (a0 : Core) (r : Bool) (h : s_l06Value a0 = some r) : AC Tryd.prog 60 [.rop (Core.avs a0) 0] (.bool r) := by
  unfold s_l06Value at h
  refine ac_fn mixed Tryd.func60 rfl rfl rfl (by kernel_rfl) (by kernel_rfl) ?_
  try simp only [go_sem]
  refine cond_i (fun hb1 => ?_) (fun hb1 => ?_)
  · replace h := ifT (c := (decide (a0.kind = 1))) hb1 h
    try simp only [go_sem]
    replace h := bindE h
    obtain ⟨v4004, hv4004, h⟩ := h
    refine call_i (s_l00In_ok _ _ _ _ hv4004) ?_
    try simp only [go_sem]
    replace h := Option.some.inj h
    obtain rfl := h
    simp only [go_sem]
  · replace h := ifF (c := (decide (a0.kind = 1))) hb1 h
    try simp only [go_sem]
    refine cond_i (fun hb2 => ?_) (fun hb2 => ?_)
    · replace h := ifT (c := (decide (a0.kind = 2))) hb2 h
      try simp only [go_sem]
      replace h := bindE h
      obtain ⟨v6004, hv6004, h⟩ := h
      refine call_i (s_l00In_ok _ _ _ _ hv6004) ?_
      try simp only [go_sem]
      replace h := Option.some.inj h
      obtain rfl := h
      simp only [go_sem]
    · replace h := ifF (c := (decide (a0.kind = 2))) hb2 h
      try simp only [go_sem]
      refine cond_i (fun hb3 => ?_) (fun hb3 => ?_)
      · replace h := ifT (c := (decide (a0.kind = 3))) hb3 h
        try simp only [go_sem]
        replace h := bindE h
        obtain ⟨v8004, hv8004, h⟩ := h
        refine call_i (s_l00In_ok _ _ _ _ hv8004) ?_
        try simp only [go_sem]
        replace h := Option.some.inj h
        obtain rfl := h
        simp only [go_sem]
      · replace h := ifF (c := (decide (a0.kind = 3))) hb3 h
        try simp only [go_sem]
        refine cond_i (fun hb4 => ?_) (fun hb4 => ?_)
        · replace h := ifT (c := (decide (a0.kind = 8))) hb4 h
          try simp only [go_sem]
          replace h := bindE h
          obtain ⟨v10004, hv10004, h⟩ := h
          refine call_i (s_l00In_ok _ _ _ _ hv10004) ?_
          try simp only [go_sem]
          replace h := Option.some.inj h
          obtain rfl := h
          simp only [go_sem]
        · replace h := ifF (c := (decide (a0.kind = 8))) hb4 h
          try simp only [go_sem]
          refine cond_i (fun hb5 => ?_) (fun hb5 => ?_)
          · replace h := ifT (c := (decide (a0.kind = 11))) hb5 h
            try simp only [go_sem]
            replace h := bindE h
            obtain ⟨v12004, hv12004, h⟩ := h
            refine call_i (s_l00In_ok _ _ _ _ hv12004) ?_
            try simp only [go_sem]
            replace h := Option.some.inj h
            obtain rfl := h
            simp only [go_sem]
          · replace h := ifF (c := (decide (a0.kind = 11))) hb5 h
            try simp only [go_sem]
            refine seq_go ?_
            try simp only [go_sem]
            replace h := Option.some.inj h
            obtain rfl := h
            simp only [go_sem]
theorem s_l06Nodes_all (n : Nat) : (∀ (a0 : Core) (a1 : Int) (a2 : Int) (r : Int), s_l06Nodes n a0 a1 a2 = some r → AC Tryd.prog 45 [.rop (Core.avs a0) 0, .int .i64 a1, .int .i64 a2] (.int .i64 r)) ∧
    (∀ (a0 : Core) (a1 : Int) (a2 : Int) (p0_0 : Bool) (r : Int), s_l06Nodes_j1 n a0 a1 a2 p0_0 = some r → posF Tryd.prog Tryd.f45 [1, 1, 0, 1] (.int .i64 r) ⟨[(0, .rop [.int .i64 a0.kind, .int .i64 a0.value, .ro (List.map i64D a0.data), .ro (List.map Core.ds a0.kids)] 0), (1, .int .i64 a1), (2, .int .i64 a2), (57, .bool p0_0)], [], []⟩) ∧
    (∀ (a0 : Core) (a1 : Int) (a2 : Int) (p1_0 : Int) (r : Int), s_l06Nodes_l2 n a0 a1 a2 p1_0 = some r → posF Tryd.prog Tryd.f45 [1, 1, 1, 0, 1, 0] (.int .i64 r) ⟨[(0, .rop [.int .i64 a0.kind, .int .i64 a0.value, .ro (List.map i64D a0.data), .ro (List.map Core.ds a0.kids)] 0), (1, .int .i64 a1), (2, .int .i64 a2), (11, .int .i64 p1_0)], [], []⟩) ∧
    (∀ (a0 : Core) (a1 : Int) (a2 : Int) (p2_0 : Int) (p2_1 : Int) (r : Int), s_l06Nodes_l3 n a0 a1 a2 p2_0 p2_1 = some r → posF Tryd.prog Tryd.f45 [1, 1, 1, 1, 1, 0, 1, 0] (.int .i64 r) ⟨[(0, .rop [.int .i64 a0.kind, .int .i64 a0.value, .ro (List.map i64D a0.data), .ro (List.map Core.ds a0.kids)] 0), (1, .int .i64 a1), (2, .int .i64 a2), (12, .int .i64 p2_0), (13, .int .i64 p2_1)], [], []⟩) := by
  induction n with
  | zero => exact ⟨(fun _ _ _ _ h => by rw [s_l06Nodes] at h; cases h), (fun _ _ _ _ _ h => by rw [s_l06Nodes_j1] at h; cases h), (fun _ _ _ _ _ h => by rw [s_l06Nodes_l2] at h; cases h), (fun _ _ _ _ _ _ h => by rw [s_l06Nodes_l3] at h; cases h)⟩
  | succ n ih =>
    obtain ⟨ih0, ih1, ih2, ih3⟩ := ih
    refine ⟨?_, ?_, ?_, ?_⟩
    · intro a0 a1 a2 r h
      rw [s_l06Nodes] at h
      refine ac_fn mixed Tryd.func45 rfl rfl rfl (by kernel_rfl) (by kernel_rfl) ?_
      try simp only [go_sem]
      replace h := bindE h
      obtain ⟨v2004, hv2004, h⟩ := h
      refine call_i (s_l06Shape_ok _ _ hv2004) ?_
      try simp only [go_sem]
      refine cond_i (fun hb1 => ?_) (fun hb1 => ?_)
      · replace h := ifT (c := (decide (a1 < 1))) hb1 h
        try simp only [go_sem]
        have hj := posF_to rfl rfl (ih1 a0 a1 a2 true _ h)
        refine seq_to hj (.one ⟨_, .done _, [], [], ?_⟩)
        clear hj
        try simp only [go_sem]
      · replace h := ifF (c := (decide (a1 < 1))) hb1 h
        try simp only [go_sem]
        refine cond_i (fun hb2 => ?_) (fun hb2 => ?_)
        · replace h := ifT (c := (decide (a2 < 1))) hb2 h
          try simp only [go_sem]
          have hj := posF_to rfl rfl (ih1 a0 a1 a2 true _ h)
          refine seq_to hj (.one ⟨_, .done _, [], [], ?_⟩)
          clear hj
          try simp only [go_sem]
        · replace h := ifF (c := (decide (a2 < 1))) hb2 h
          try simp only [go_sem]
          replace h := bindE h
          obtain ⟨v3014, hv3014, h⟩ := h
          refine call_i (s_l00In_ok _ _ _ _ hv3014) ?_
          try simp only [go_sem]
          refine cond_i (fun hb3 => ?_) (fun hb3 => ?_)
          · replace h := ifT (c := (!v3014)) hb3 h
            try simp only [go_sem]
            have hj := posF_to rfl rfl (ih1 a0 a1 a2 true _ h)
            refine seq_to hj (.one ⟨_, .done _, [], [], ?_⟩)
            clear hj
            try simp only [go_sem]
          · replace h := ifF (c := (!v3014)) hb3 h
            try simp only [go_sem]
            replace h := bindE h
            obtain ⟨v3025, hv3025, h⟩ := h
            refine call_i (s_l00In_ok _ _ _ _ hv3025) ?_
            try simp only [go_sem]
            refine cond_i (fun hb4 => ?_) (fun hb4 => ?_)
            · replace h := ifT (c := (!v3025)) hb4 h
              try simp only [go_sem]
              have hj := posF_to rfl rfl (ih1 a0 a1 a2 true _ h)
              refine seq_to hj (.one ⟨_, .done _, [], [], ?_⟩)
              clear hj
              try simp only [go_sem]
            · replace h := ifF (c := (!v3025)) hb4 h
              try simp only [go_sem]
              replace h := bindE h
              obtain ⟨v3030, hv3030, h⟩ := h
              refine call_i (s_l06Value_ok _ _ hv3030) ?_
              try simp only [go_sem]
              have hj := posF_to rfl rfl (ih1 a0 a1 a2 (!v3030) _ h)
              refine seq_to hj (.one ⟨_, .done _, [], [], ?_⟩)
              clear hj
              try simp only [go_sem]
    · intro a0 a1 a2 p0_0 r h
      rw [s_l06Nodes_j1] at h
      refine posF_of rfl rfl ?_
      try simp only [go_sem]
      refine cond_i (fun hb5 => ?_) (fun hb5 => ?_)
      · replace h := ifT (c := p0_0) hb5 h
        try simp only [go_sem]
        replace h := Option.some.inj h
        obtain rfl := h
        simp only [go_sem]
      · replace h := ifF (c := p0_0) hb5 h
        try simp only [go_sem]
        refine seq_go ?_
        try simp only [go_sem]
        have hj := posF_to rfl rfl (ih2 a0 a1 a2 0 _ h)
        refine loop_to hj (.one ⟨_, .done _, [], [], ?_⟩)
        clear hj
        try simp only [go_sem]
    · intro a0 a1 a2 p1_0 r h
      rw [s_l06Nodes_l2] at h
      refine posF_of rfl rfl ?_
      try simp only [go_sem]
      refine loop_i ?_
      try simp only [go_sem]
      refine cond_i (fun hb6 => ?_) (fun hb6 => ?_)
      · replace h := ifT (c := (decide (p1_0 < ((List.length a0.data : Nat) : Int)))) hb6 h
        try simp only [go_sem]
        refine seq_go ?_
        try simp only [go_sem]
        replace h := bindE h
        obtain ⟨v8005, hv8005, h⟩ := h
        refine idx_m hv8005 rfl ?_
        try simp only [go_sem]
        replace h := bindE h
        obtain ⟨v8007, hv8007, h⟩ := h
        refine call_i (s_l00In_ok _ _ _ _ hv8007) ?_
        try simp only [go_sem]
        refine cond_i (fun hb7 => ?_) (fun hb7 => ?_)
        · replace h := ifT (c := (!v8007)) hb7 h
          try simp only [go_sem]
          replace h := Option.some.inj h
          obtain rfl := h
          simp only [go_sem]
        · replace h := ifF (c := (!v8007)) hb7 h
          try simp only [go_sem]
          refine seq_go ?_
          try simp only [go_sem]
          have hj := posF_to rfl rfl (ih2 a0 a1 a2 (IntKind.i64.wrap (p1_0 + 1)) _ h)
          refine lp_to hj (.one ⟨_, .done _, [], [], ?_⟩)
          clear hj
          try simp only [go_sem]
      · replace h := ifF (c := (decide (p1_0 < ((List.length a0.data : Nat) : Int)))) hb6 h
        try simp only [go_sem]
        refine seq_go ?_
        try simp only [go_sem]
        have hj := posF_to rfl rfl (ih3 a0 a1 a2 1 0 _ h)
        refine loop_to hj (.one ⟨_, .done _, [], [], ?_⟩)
        clear hj
        try simp only [go_sem]
    · intro a0 a1 a2 p2_0 p2_1 r h
      rw [s_l06Nodes_l3] at h
      refine posF_of rfl rfl ?_
      try simp only [go_sem]
      refine loop_i ?_
      try simp only [go_sem]
      refine cond_i (fun hb8 => ?_) (fun hb8 => ?_)
      · replace h := ifT (c := (decide (p2_1 < ((List.length a0.kids : Nat) : Int)))) hb8 h
        try simp only [go_sem]
        refine seq_go ?_
        try simp only [go_sem]
        replace h := bindE h
        obtain ⟨v14005, hv14005, h⟩ := h
        refine idx_m hv14005 (Core.ds_len _) ?_
        try simp only [go_sem]
        replace h := bindE h
        obtain ⟨v14011, hv14011, h⟩ := h
        refine call_i (ih0 _ _ _ _ hv14011) ?_
        try simp only [go_sem]
        refine cond_i (fun hb9 => ?_) (fun hb9 => ?_)
        · replace h := ifT (c := (decide (v14011 < 0))) hb9 h
          try simp only [go_sem]
          replace h := Option.some.inj h
          obtain rfl := h
          simp only [go_sem]
        · replace h := ifF (c := (decide (v14011 < 0))) hb9 h
          try simp only [go_sem]
          refine seq_go ?_
          try simp only [go_sem]
          refine seq_go ?_
          try simp only [go_sem]
          have hj := posF_to rfl rfl (ih3 a0 a1 a2 (IntKind.i64.wrap (p2_0 + v14011)) (IntKind.i64.wrap (p2_1 + 1)) _ h)
          refine lp_to hj (.one ⟨_, .done _, [], [], ?_⟩)
          clear hj
          try simp only [go_sem]
      · replace h := ifF (c := (decide (p2_1 < ((List.length a0.kids : Nat) : Int)))) hb8 h
        try simp only [go_sem]
        refine seq_go ?_
        try simp only [go_sem]
        replace h := Option.some.inj h
        obtain rfl := h
        simp only [go_sem]
theorem s_l06Nodes_ok (n : Nat) : (∀ (a0 : Core) (a1 : Int) (a2 : Int) (r : Int), s_l06Nodes n a0 a1 a2 = some r → AC Tryd.prog 45 [.rop (Core.avs a0) 0, .int .i64 a1, .int .i64 a2] (.int .i64 r)) := (s_l06Nodes_all n).1
theorem s_l06Nodes_j1_ok (n : Nat) : (∀ (a0 : Core) (a1 : Int) (a2 : Int) (p0_0 : Bool) (r : Int), s_l06Nodes_j1 n a0 a1 a2 p0_0 = some r → posF Tryd.prog Tryd.f45 [1, 1, 0, 1] (.int .i64 r) ⟨[(0, .rop [.int .i64 a0.kind, .int .i64 a0.value, .ro (List.map i64D a0.data), .ro (List.map Core.ds a0.kids)] 0), (1, .int .i64 a1), (2, .int .i64 a2), (57, .bool p0_0)], [], []⟩) := (s_l06Nodes_all n).2.1
theorem s_l06Nodes_l2_ok (n : Nat) : (∀ (a0 : Core) (a1 : Int) (a2 : Int) (p1_0 : Int) (r : Int), s_l06Nodes_l2 n a0 a1 a2 p1_0 = some r → posF Tryd.prog Tryd.f45 [1, 1, 1, 0, 1, 0] (.int .i64 r) ⟨[(0, .rop [.int .i64 a0.kind, .int .i64 a0.value, .ro (List.map i64D a0.data), .ro (List.map Core.ds a0.kids)] 0), (1, .int .i64 a1), (2, .int .i64 a2), (11, .int .i64 p1_0)], [], []⟩) := (s_l06Nodes_all n).2.2.1
theorem s_l06Nodes_l3_ok (n : Nat) : (∀ (a0 : Core) (a1 : Int) (a2 : Int) (p2_0 : Int) (p2_1 : Int) (r : Int), s_l06Nodes_l3 n a0 a1 a2 p2_0 p2_1 = some r → posF Tryd.prog Tryd.f45 [1, 1, 1, 1, 1, 0, 1, 0] (.int .i64 r) ⟨[(0, .rop [.int .i64 a0.kind, .int .i64 a0.value, .ro (List.map i64D a0.data), .ro (List.map Core.ds a0.kids)] 0), (1, .int .i64 a1), (2, .int .i64 a2), (12, .int .i64 p2_0), (13, .int .i64 p2_1)], [], []⟩) := (s_l06Nodes_all n).2.2.2

theorem s_l06Ok_ok (a0 : Core) (r : Bool) (h : s_l06Ok a0 = some r) : AC Tryd.prog 36 [.rop (Core.avs a0) 0] (.bool r) := by
  unfold s_l06Ok at h
  refine ac_fn mixed Tryd.func36 rfl rfl rfl (by kernel_rfl) (by kernel_rfl) ?_
  try simp only [go_sem]
  replace h := bindE h
  obtain ⟨v2001, hv2001, h⟩ := h
  refine call_i (s_l06Nodes_ok fuel _ _ _ _ hv2001) ?_
  try simp only [go_sem]
  replace h := Option.some.inj h
  obtain rfl := h
  simp only [go_sem]
theorem s_l01Operators_ok  (r : (List ByteArray)) (h : s_l01Operators  = some r) : AG Tryd.prog 61 [] [] [] (.own 1501) [(1501, ⟨List.map strD r, some 1, 0⟩)] [] := by
  unfold s_l01Operators at h
  refine ag_fn mixed Tryd.func61 rfl rfl rfl (by kernel_rfl) (by kernel_rfl) ?_
  try simp only [go_sem]
  replace h := Option.some.inj h
  obtain rfl := h
  refine ret_i (.lit 0 2000000000 2000 6 1 [] _ _ (by (first | rfl | (simp only [go_sem]; rfl))) (by simp only [go_sem]; rfl) (by (first | rfl | (simp only [go_sem]; rfl))) (by (first | rfl | (simp only [go_sem]; rfl))) (by decide) (by decide) (by simp only [go_sem]) (.done _)) [(1501, 2000000000)] [] ?_
  simp only [go_sem]
  all_goals try rfl
theorem s_OperatorText_ok (a0 : Int) (r : ByteArray) (h : s_OperatorText a0 = some r) : AC Tryd.prog 46 [.int .i64 a0] (.str r) := by
  unfold s_OperatorText at h
  refine ac_fn mixed Tryd.func46 rfl rfl rfl (by kernel_rfl) (by kernel_rfl) ?_
  try simp only [go_sem]
  replace h := bindE h
  obtain ⟨v2001, hv2001, h⟩ := h
  refine call_i (s_l00In_ok _ _ _ _ hv2001) ?_
  try simp only [go_sem]
  refine cond_i (fun hb1 => ?_) (fun hb1 => ?_)
  · replace h := ifT (c := (!v2001)) hb1 h
    try simp only [go_sem]
    replace h := Option.some.inj h
    obtain rfl := h
    simp only [go_sem]
  · replace h := ifF (c := (!v2001)) hb1 h
    try simp only [go_sem]
    refine seq_go ?_
    try simp only [go_sem]
    replace h := bindE h
    obtain ⟨v4000, hv4000, h⟩ := h
    refine call_g ⟨[], [], [], [(1501, 64000)], [], true⟩ (by kernel_rfl) (s_l01Operators_ok  _ hv4000) (by kernel_rfl) ?_
    try simp only [go_sem]
    replace h := bindE h
    obtain ⟨v4003, hv4003, h⟩ := h
    refine idx_m hv4003 rfl ?_
    try simp only [go_sem]
    refine opt_i (row_m hv4003) ?_
    try simp only [go_sem]
    replace h := Option.some.inj h
    obtain rfl := h
    simp only [go_sem]
theorem s_l06List_l3_all (n : Nat) : (∀ (a0 : List Int) (p0_0 : ByteArray) (p0_1 : Int) (r : ByteArray), s_l06List_l3 n a0 p0_0 p0_1 = some r → posF Tryd.prog Tryd.f47 [1, 1, 0, 1, 0] (.str r) ⟨[(0, .ro (List.map i64D a0)), (3, .str p0_0), (4, .int .i64 p0_1)], [], []⟩) ∧
    (∀ (a0 : List Int) (p0_1 : Int) (p1_0 : ByteArray) (r : ByteArray), s_l06List_j4 n a0 p0_1 p1_0 = some r → posF Tryd.prog Tryd.f47 [1, 1, 0, 1, 0, 0, 1, 0, 0, 1] (.str r) ⟨[(0, .ro (List.map i64D a0)), (3, .str p1_0), (4, .int .i64 p0_1)], [], []⟩) := by
  induction n with
  | zero => exact ⟨(fun _ _ _ _ h => by rw [s_l06List_l3] at h; cases h), (fun _ _ _ _ h => by rw [s_l06List_j4] at h; cases h)⟩
  | succ n ih =>
    obtain ⟨ih0, ih1⟩ := ih
    refine ⟨?_, ?_⟩
    · intro a0 p0_0 p0_1 r h
      rw [s_l06List_l3] at h
      refine posF_of rfl rfl ?_
      try simp only [go_sem]
      refine loop_i ?_
      try simp only [go_sem]
      refine cond_i (fun hb1 => ?_) (fun hb1 => ?_)
      · replace h := ifT (c := (decide (p0_1 < ((List.length a0 : Nat) : Int)))) hb1 h
        try simp only [go_sem]
        refine seq_go ?_
        try simp only [go_sem]
        refine cond_i (fun hb2 => ?_) (fun hb2 => ?_)
        · replace h := ifT (c := (decide (0 < p0_1))) hb2 h
          try simp only [go_sem]
          replace h := bindE h
          obtain ⟨v7001, hv7001, h⟩ := h
          have hq_ := sapp_some hv7001
          obtain ⟨hv7001a, hv7001b⟩ := hq_
          refine and_i hv7001a ?_
          rw [hv7001b]
          try simp only [go_sem]
          have hj := posF_to rfl rfl (ih1 a0 p0_1 v7001 _ h)
          refine seq_to hj (.one ⟨_, .done _, [], [], ?_⟩)
          clear hj
          try simp only [go_sem]
        · replace h := ifF (c := (decide (0 < p0_1))) hb2 h
          try simp only [go_sem]
          have hj := posF_to rfl rfl (ih1 a0 p0_1 p0_0 _ h)
          refine seq_to hj (.one ⟨_, .done _, [], [], ?_⟩)
          clear hj
          try simp only [go_sem]
      · replace h := ifF (c := (decide (p0_1 < ((List.length a0 : Nat) : Int)))) hb1 h
        try simp only [go_sem]
        refine seq_go ?_
        try simp only [go_sem]
        replace h := Option.some.inj h
        obtain rfl := h
        simp only [go_sem]
    · intro a0 p0_1 p1_0 r h
      rw [s_l06List_j4] at h
      refine posF_of rfl rfl ?_
      try simp only [go_sem]
      replace h := bindE h
      obtain ⟨v8003, hv8003, h⟩ := h
      refine idx_m hv8003 rfl ?_
      try simp only [go_sem]
      replace h := bindE h
      obtain ⟨v8005, hv8005, h⟩ := h
      refine call_i (s_Decimal_ok _ _ hv8005) ?_
      try simp only [go_sem]
      replace h := bindE h
      obtain ⟨v8006, hv8006, h⟩ := h
      have hq_ := sapp_some hv8006
      obtain ⟨hv8006a, hv8006b⟩ := hq_
      refine and_i hv8006a ?_
      rw [hv8006b]
      try simp only [go_sem]
      refine seq_go ?_
      try simp only [go_sem]
      have hj := posF_to rfl rfl (ih0 a0 v8006 (IntKind.i64.wrap (p0_1 + 1)) _ h)
      refine lp_to hj (.one ⟨_, .done _, [], [], ?_⟩)
      clear hj
      try simp only [go_sem]
theorem s_l06List_l3_ok (n : Nat) : (∀ (a0 : List Int) (p0_0 : ByteArray) (p0_1 : Int) (r : ByteArray), s_l06List_l3 n a0 p0_0 p0_1 = some r → posF Tryd.prog Tryd.f47 [1, 1, 0, 1, 0] (.str r) ⟨[(0, .ro (List.map i64D a0)), (3, .str p0_0), (4, .int .i64 p0_1)], [], []⟩) := (s_l06List_l3_all n).1
theorem s_l06List_j4_ok (n : Nat) : (∀ (a0 : List Int) (p0_1 : Int) (p1_0 : ByteArray) (r : ByteArray), s_l06List_j4 n a0 p0_1 p1_0 = some r → posF Tryd.prog Tryd.f47 [1, 1, 0, 1, 0, 0, 1, 0, 0, 1] (.str r) ⟨[(0, .ro (List.map i64D a0)), (3, .str p1_0), (4, .int .i64 p0_1)], [], []⟩) := (s_l06List_l3_all n).2

theorem s_l06List_ok (a0 : List Int) (r : ByteArray) (h : s_l06List a0 = some r) : AC Tryd.prog 47 [.ro (List.map i64D a0)] (.str r) := by
  unfold s_l06List at h
  refine ac_fn mixed Tryd.func47 rfl rfl rfl (by kernel_rfl) (by kernel_rfl) ?_
  try simp only [go_sem]
  have hj := posF_to rfl rfl (s_l06List_l3_ok fuel a0 (ByteArray.mk #[]) 0 _ h)
  refine loop_to hj (.one ⟨_, .done _, [], [], ?_⟩)
  clear hj
  try simp only [go_sem]
end Go.Proofs.YtlmanchbpommaaaDoor.Ab
