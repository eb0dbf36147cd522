/-
  The functions do what their models say. Printed by wip/ab/gen.py.
-/
import Derived.Test.YtlmanchbpommaaaModT
import Derived.Test.YtlmanchbpommaaaTi2
import Derived.Test.YtlmanchbpommaaaWlk
namespace Go.Proofs.Ytlmanchbpommaaa.Ab
set_option linter.unusedVariables false
set_option linter.unusedSimpArgs false
set_option maxRecDepth 20000
set_option maxHeartbeats 4000000
open Go.RowKit

theorem l_szDequeActor_ok (a0 : DequeActor) (a1 : Int) (r : Int) (h : l_szDequeActor a0 a1 = some r) : AC Try.prog 54 [.agg (DequeActor.avs a0), .int .i64 a1] (.int .i64 r) := by
  unfold l_szDequeActor at h
  refine ac_fn mixed Try.func54 rfl rfl rfl (by kernel_rfl) (by kernel_rfl) ?_
  try simp only [go_sem]
  replace h := bindE h
  obtain ⟨v2003, hv2003, h⟩ := h
  refine call_i (l_szInt64S_ok _ _ _ hv2003) ?_
  try simp only [go_sem]
  refine cond_i (fun hb1 => ?_) (fun hb1 => ?_)
  · replace h := ifT (c := (decide (v2003 < 0))) hb1 h
    try simp only [go_sem]
    replace h := Option.some.inj h
    obtain rfl := h
    simp only [go_sem]
  · replace h := ifF (c := (decide (v2003 < 0))) hb1 h
    try simp only [go_sem]
    refine seq_go ?_
    try simp only [go_sem]
    replace h := Option.some.inj h
    obtain rfl := h
    simp only [go_sem]
theorem l_szDequeActorS_l1_all (n : Nat) : (∀ (a0 : List DequeActor) (p0_0 : Int) (p0_1 : Int) (r : Int), l_szDequeActorS_l1 n a0 p0_0 p0_1 = some r → posF Try.prog Try.f27 [1, 1, 1, 0, 1, 0] (.int .i64 r) ⟨[(0, .ro (List.map DequeActor.ds a0)), (1, .int .i64 p0_0), (5, .int .i64 p0_1)], [], []⟩) := by
  induction n with
  | zero => exact ((fun _ _ _ _ h => by rw [l_szDequeActorS_l1] at h; cases h))
  | succ n ih =>
    have ih0 := ih
    · intro a0 p0_0 p0_1 r h
      rw [l_szDequeActorS_l1] at h
      refine posF_of rfl rfl ?_
      try simp only [go_sem]
      refine loop_i ?_
      try simp only [go_sem]
      refine cond_i (fun hb2 => ?_) (fun hb2 => ?_)
      · replace h := ifT (c := (decide (p0_1 < ((List.length a0 : Nat) : Int)))) hb2 h
        try simp only [go_sem]
        refine seq_go ?_
        try simp only [go_sem]
        replace h := bindE h
        obtain ⟨v8002, hv8002, h⟩ := h
        refine idx_m hv8002 (DequeActor.ds_len _) ?_
        try simp only [go_sem]
        replace h := bindE h
        obtain ⟨v8005, hv8005, h⟩ := h
        refine call_i (l_szDequeActor_ok _ _ _ hv8005) ?_
        try simp only [go_sem]
        refine cond_i (fun hb3 => ?_) (fun hb3 => ?_)
        · replace h := ifT (c := (decide (v8005 < 0))) hb3 h
          try simp only [go_sem]
          replace h := Option.some.inj h
          obtain rfl := h
          simp only [go_sem]
        · replace h := ifF (c := (decide (v8005 < 0))) hb3 h
          try simp only [go_sem]
          refine seq_go ?_
          try simp only [go_sem]
          have hj := posF_to rfl rfl (ih0 a0 v8005 (IntKind.i64.wrap (p0_1 + 1)) _ h)
          refine lp_to hj (.one ⟨_, .done _, [], [], ?_⟩)
          clear hj
          try simp only [go_sem]
      · replace h := ifF (c := (decide (p0_1 < ((List.length a0 : Nat) : Int)))) hb2 h
        try simp only [go_sem]
        refine seq_go ?_
        try simp only [go_sem]
        replace h := Option.some.inj h
        obtain rfl := h
        simp only [go_sem]
theorem l_szDequeActorS_l1_ok (n : Nat) : (∀ (a0 : List DequeActor) (p0_0 : Int) (p0_1 : Int) (r : Int), l_szDequeActorS_l1 n a0 p0_0 p0_1 = some r → posF Try.prog Try.f27 [1, 1, 1, 0, 1, 0] (.int .i64 r) ⟨[(0, .ro (List.map DequeActor.ds a0)), (1, .int .i64 p0_0), (5, .int .i64 p0_1)], [], []⟩) := (l_szDequeActorS_l1_all n)

theorem l_szDequeActorS_ok (a0 : List DequeActor) (a1 : Int) (r : Int) (h : l_szDequeActorS a0 a1 = some r) : AC Try.prog 27 [.ro (List.map DequeActor.ds a0), .int .i64 a1] (.int .i64 r) := by
  unfold l_szDequeActorS at h
  refine ac_fn mixed Try.func27 rfl rfl rfl (by kernel_rfl) (by kernel_rfl) ?_
  try simp only [go_sem]
  refine cond_i (fun hb1 => ?_) (fun hb1 => ?_)
  · replace h := ifT (c := (decide ((IntKind.i64.wrap (a1 - ((List.length a0 : Nat) : Int))) < 0))) hb1 h
    try simp only [go_sem]
    replace h := Option.some.inj h
    obtain rfl := h
    simp only [go_sem]
  · replace h := ifF (c := (decide ((IntKind.i64.wrap (a1 - ((List.length a0 : Nat) : Int))) < 0))) hb1 h
    try simp only [go_sem]
    refine seq_go ?_
    try simp only [go_sem]
    have hj := posF_to rfl rfl (l_szDequeActorS_l1_ok fuel a0 (IntKind.i64.wrap (a1 - ((List.length a0 : Nat) : Int))) 0 _ h)
    refine loop_to hj (.one ⟨_, .done _, [], [], ?_⟩)
    clear hj
    try simp only [go_sem]
theorem l_szHandedS_ok (a0 : List Handed) (a1 : Int) (r : Int) (h : l_szHandedS a0 a1 = some r) : AC Try.prog 28 [.ro (List.map Handed.ds a0), .int .i64 a1] (.int .i64 r) := by
  unfold l_szHandedS at h
  refine ac_fn mixed Try.func28 rfl rfl rfl (by kernel_rfl) (by kernel_rfl) ?_
  try simp only [go_sem]
  refine cond_i (fun hb1 => ?_) (fun hb1 => ?_)
  · replace h := ifT (c := (decide ((IntKind.i64.wrap (a1 - ((List.length a0 : Nat) : Int))) < 0))) hb1 h
    try simp only [go_sem]
    replace h := Option.some.inj h
    obtain rfl := h
    simp only [go_sem]
  · replace h := ifF (c := (decide ((IntKind.i64.wrap (a1 - ((List.length a0 : Nat) : Int))) < 0))) hb1 h
    try simp only [go_sem]
    refine seq_go ?_
    try simp only [go_sem]
    replace h := Option.some.inj h
    obtain rfl := h
    simp only [go_sem]
theorem l_szDeque_ok (a0 : Deque) (a1 : Int) (r : Int) (h : l_szDeque a0 a1 = some r) : AC Try.prog 6 [.agg (Deque.avs a0), .int .i64 a1] (.int .i64 r) := by
  unfold l_szDeque at h
  refine ac_fn mixed Try.func6 rfl rfl rfl (by kernel_rfl) (by kernel_rfl) ?_
  try simp only [go_sem]
  replace h := bindE h
  obtain ⟨v2003, hv2003, h⟩ := h
  refine call_i (l_szInt64S_ok _ _ _ hv2003) ?_
  try simp only [go_sem]
  refine cond_i (fun hb1 => ?_) (fun hb1 => ?_)
  · replace h := ifT (c := (decide (v2003 < 0))) hb1 h
    try simp only [go_sem]
    replace h := Option.some.inj h
    obtain rfl := h
    simp only [go_sem]
  · replace h := ifF (c := (decide (v2003 < 0))) hb1 h
    try simp only [go_sem]
    refine seq_go ?_
    try simp only [go_sem]
    replace h := bindE h
    obtain ⟨v5003, hv5003, h⟩ := h
    refine call_i (l_szDequeActorS_ok _ _ _ hv5003) ?_
    try simp only [go_sem]
    refine cond_i (fun hb2 => ?_) (fun hb2 => ?_)
    · replace h := ifT (c := (decide (v5003 < 0))) hb2 h
      try simp only [go_sem]
      replace h := Option.some.inj h
      obtain rfl := h
      simp only [go_sem]
    · replace h := ifF (c := (decide (v5003 < 0))) hb2 h
      try simp only [go_sem]
      refine seq_go ?_
      try simp only [go_sem]
      replace h := bindE h
      obtain ⟨v8003, hv8003, h⟩ := h
      refine call_i (l_szHandedS_ok _ _ _ hv8003) ?_
      try simp only [go_sem]
      refine cond_i (fun hb3 => ?_) (fun hb3 => ?_)
      · replace h := ifT (c := (decide (v8003 < 0))) hb3 h
        try simp only [go_sem]
        replace h := Option.some.inj h
        obtain rfl := h
        simp only [go_sem]
      · replace h := ifF (c := (decide (v8003 < 0))) hb3 h
        try simp only [go_sem]
        refine seq_go ?_
        try simp only [go_sem]
        replace h := bindE h
        obtain ⟨v11003, hv11003, h⟩ := h
        refine call_i (l_szInt64S_ok _ _ _ hv11003) ?_
        try simp only [go_sem]
        refine cond_i (fun hb4 => ?_) (fun hb4 => ?_)
        · replace h := ifT (c := (decide (v11003 < 0))) hb4 h
          try simp only [go_sem]
          replace h := Option.some.inj h
          obtain rfl := h
          simp only [go_sem]
        · replace h := ifF (c := (decide (v11003 < 0))) hb4 h
          try simp only [go_sem]
          refine seq_go ?_
          try simp only [go_sem]
          replace h := Option.some.inj h
          obtain rfl := h
          simp only [go_sem]
theorem s_l00In_ok (a0 : Int) (a1 : Int) (a2 : Int) (r : Bool) (h : s_l00In a0 a1 a2 = some r) : AC Try.prog 55 [.int .i64 a0, .int .i64 a1, .int .i64 a2] (.bool r) := by
  unfold s_l00In at h
  refine ac_fn mixed Try.func55 rfl rfl rfl (by kernel_rfl) (by kernel_rfl) ?_
  try simp only [go_sem]
  refine cond_i (fun hb1 => ?_) (fun hb1 => ?_)
  · replace h := ifT (c := (decide (a1 ≤ a0))) hb1 h
    try simp only [go_sem]
    refine seq_go ?_
    try simp only [go_sem]
    replace h := Option.some.inj h
    obtain rfl := h
    simp only [go_sem]
  · replace h := ifF (c := (decide (a1 ≤ a0))) hb1 h
    try simp only [go_sem]
    refine seq_go ?_
    try simp only [go_sem]
    replace h := Option.some.inj h
    obtain rfl := h
    simp only [go_sem]
theorem s_l23Task_ok (a0 : Int) (r : Bool) (h : s_l23Task a0 = some r) : AC Try.prog 56 [.int .i64 a0] (.bool r) := by
  unfold s_l23Task at h
  refine ac_fn mixed Try.func56 rfl rfl rfl (by kernel_rfl) (by kernel_rfl) ?_
  try simp only [go_sem]
  replace h := bindE h
  obtain ⟨v2001, hv2001, h⟩ := h
  refine call_i (s_l00In_ok _ _ _ _ hv2001) ?_
  try simp only [go_sem]
  replace h := Option.some.inj h
  obtain rfl := h
  simp only [go_sem]
theorem s_l23Actor_j7_ok (a0 : DequeActor) (a1 : Bool) (p3_0 : Bool) (p4_0 : Bool) (r : Bool) (h : s_l23Actor_j7 a0 a1 p3_0 p4_0 = some r) : posF Try.prog Try.f57 [1, 1, 1, 1, 0, 1] (.bool r) ⟨[(0, .rop [.ro (List.map i64D a0.todo), .int .i64 a0.pc, .int .i64 a0.t, .int .i64 a0.b, .int .i64 a0.x] 0), (1, .bool a1), (6, .bool p3_0), (115, .bool p4_0)], [], []⟩ := by
  unfold s_l23Actor_j7 at h
  refine posF_of rfl rfl ?_
  try simp only [go_sem]
  refine cond_i (fun hb14 => ?_) (fun hb14 => ?_)
  · replace h := ifT (c := p4_0) hb14 h
    try simp only [go_sem]
    replace h := Option.some.inj h
    obtain rfl := h
    simp only [go_sem]
  · replace h := ifF (c := p4_0) hb14 h
    try simp only [go_sem]
    refine seq_go ?_
    try simp only [go_sem]
    replace h := bindE h
    obtain ⟨v12004, hv12004, h⟩ := h
    refine idx_m hv12004 rfl ?_
    try simp only [go_sem]
    refine cond_i (fun hb15 => ?_) (fun hb15 => ?_)
    · replace h := ifT (c := (!decide (v12004 = 0))) hb15 h
      try simp only [go_sem]
      refine cond_i (fun hb16 => ?_) (fun hb16 => ?_)
      · replace h := ifT (c := (decide (a0.pc < 3))) hb16 h
        try simp only [go_sem]
        refine seq_go ?_
        try simp only [go_sem]
        replace h := Option.some.inj h
        obtain rfl := h
        simp only [go_sem]
      · replace h := ifF (c := (decide (a0.pc < 3))) hb16 h
        try simp only [go_sem]
        refine seq_go ?_
        try simp only [go_sem]
        replace h := Option.some.inj h
        obtain rfl := h
        simp only [go_sem]
    · replace h := ifF (c := (!decide (v12004 = 0))) hb15 h
      try simp only [go_sem]
      refine seq_go ?_
      try simp only [go_sem]
      refine cond_i (fun hb17 => ?_) (fun hb17 => ?_)
      · replace h := ifT (c := a1) hb17 h
        try simp only [go_sem]
        refine seq_go ?_
        try simp only [go_sem]
        replace h := Option.some.inj h
        obtain rfl := h
        simp only [go_sem]
      · replace h := ifF (c := a1) hb17 h
        try simp only [go_sem]
        refine seq_go ?_
        try simp only [go_sem]
        replace h := Option.some.inj h
        obtain rfl := h
        simp only [go_sem]
theorem s_l23Actor_j6_ok (a0 : DequeActor) (a1 : Bool) (p3_0 : Bool) (r : Bool) (h : s_l23Actor_j6 a0 a1 p3_0 = some r) : posF Try.prog Try.f57 [1, 1, 1, 1] (.bool r) ⟨[(0, .rop [.ro (List.map i64D a0.todo), .int .i64 a0.pc, .int .i64 a0.t, .int .i64 a0.b, .int .i64 a0.x] 0), (1, .bool a1), (6, .bool p3_0)], [], []⟩ := by
  unfold s_l23Actor_j6 at h
  refine posF_of rfl rfl ?_
  try simp only [go_sem]
  refine cond_i (fun hb13 => ?_) (fun hb13 => ?_)
  · replace h := ifT (c := (decide (a0.pc = 0))) hb13 h
    try simp only [go_sem]
    have hj := posF_to rfl rfl (s_l23Actor_j7_ok a0 a1 p3_0 true _ h)
    refine seq_to hj (.one ⟨_, .done _, [], [], ?_⟩)
    clear hj
    try simp only [go_sem]
  · replace h := ifF (c := (decide (a0.pc = 0))) hb13 h
    try simp only [go_sem]
    have hj := posF_to rfl rfl (s_l23Actor_j7_ok a0 a1 p3_0 (decide (((List.length a0.todo : Nat) : Int) = 0)) _ h)
    refine seq_to hj (.one ⟨_, .done _, [], [], ?_⟩)
    clear hj
    try simp only [go_sem]
theorem s_l23Actor_l4_all (n : Nat) : (∀ (a0 : DequeActor) (a1 : Bool) (p1_0 : Int) (r : Bool), s_l23Actor_l4 n a0 a1 p1_0 = some r → posF Try.prog Try.f57 [1, 1, 0, 1, 0] (.bool r) ⟨[(0, .rop [.ro (List.map i64D a0.todo), .int .i64 a0.pc, .int .i64 a0.t, .int .i64 a0.b, .int .i64 a0.x] 0), (1, .bool a1), (5, .int .i64 p1_0)], [], []⟩) ∧
    (∀ (a0 : DequeActor) (a1 : Bool) (p1_0 : Int) (p2_0 : Bool) (r : Bool), s_l23Actor_j5 n a0 a1 p1_0 p2_0 = some r → posF Try.prog Try.f57 [1, 1, 0, 1, 0, 0, 1, 0, 0, 1] (.bool r) ⟨[(0, .rop [.ro (List.map i64D a0.todo), .int .i64 a0.pc, .int .i64 a0.t, .int .i64 a0.b, .int .i64 a0.x] 0), (1, .bool a1), (5, .int .i64 p1_0), (76, .bool p2_0)], [], []⟩) := by
  induction n with
  | zero => exact ⟨(fun _ _ _ _ h => by rw [s_l23Actor_l4] at h; cases h), (fun _ _ _ _ _ h => by rw [s_l23Actor_j5] at h; cases h)⟩
  | succ n ih =>
    obtain ⟨ih0, ih1⟩ := ih
    refine ⟨?_, ?_⟩
    · intro a0 a1 p1_0 r h
      rw [s_l23Actor_l4] at h
      refine posF_of rfl rfl ?_
      try simp only [go_sem]
      refine loop_i ?_
      try simp only [go_sem]
      refine cond_i (fun hb6 => ?_) (fun hb6 => ?_)
      · replace h := ifT (c := (decide (p1_0 < ((List.length a0.todo : Nat) : Int)))) hb6 h
        try simp only [go_sem]
        refine seq_go ?_
        try simp only [go_sem]
        replace h := bindE h
        obtain ⟨v7005, hv7005, h⟩ := h
        refine idx_m hv7005 rfl ?_
        try simp only [go_sem]
        refine cond_i (fun hb7 => ?_) (fun hb7 => ?_)
        · replace h := ifT (c := (!decide (v7005 = 0))) hb7 h
          try simp only [go_sem]
          refine cond_i (fun hb8 => ?_) (fun hb8 => ?_)
          · replace h := ifT (c := (!a1)) hb8 h
            try simp only [go_sem]
            have hj := posF_to rfl rfl (ih1 a0 a1 p1_0 true _ h)
            refine seq_to hj (.one ⟨_, .done _, [], [], ?_⟩)
            clear hj
            try simp only [go_sem]
          · replace h := ifF (c := (!a1)) hb8 h
            try simp only [go_sem]
            replace h := bindE h
            obtain ⟨v7017, hv7017, h⟩ := h
            refine idx_m hv7017 rfl ?_
            try simp only [go_sem]
            replace h := bindE h
            obtain ⟨v7019, hv7019, h⟩ := h
            refine call_i (s_l23Task_ok _ _ hv7019) ?_
            try simp only [go_sem]
            have hj := posF_to rfl rfl (ih1 a0 a1 p1_0 (!v7019) _ h)
            refine seq_to hj (.one ⟨_, .done _, [], [], ?_⟩)
            clear hj
            try simp only [go_sem]
        · replace h := ifF (c := (!decide (v7005 = 0))) hb7 h
          try simp only [go_sem]
          have hj := posF_to rfl rfl (ih1 a0 a1 p1_0 false _ h)
          refine seq_to hj (.one ⟨_, .done _, [], [], ?_⟩)
          clear hj
          try simp only [go_sem]
      · replace h := ifF (c := (decide (p1_0 < ((List.length a0.todo : Nat) : Int)))) hb6 h
        try simp only [go_sem]
        refine seq_go ?_
        try simp only [go_sem]
        refine cond_i (fun hb9 => ?_) (fun hb9 => ?_)
        · replace h := ifT (c := (decide (a0.pc = 0))) hb9 h
          try simp only [go_sem]
          refine cond_i (fun hb10 => ?_) (fun hb10 => ?_)
          · replace h := ifT (c := (decide (a0.t = 0))) hb10 h
            try simp only [go_sem]
            refine cond_i (fun hb11 => ?_) (fun hb11 => ?_)
            · replace h := ifT (c := (decide (a0.b = 0))) hb11 h
              try simp only [go_sem]
              have hj := posF_to rfl rfl (s_l23Actor_j6_ok a0 a1 (decide (a0.x = 0)) _ h)
              refine seq_to hj (.one ⟨_, .done _, [], [], ?_⟩)
              clear hj
              try simp only [go_sem]
            · replace h := ifF (c := (decide (a0.b = 0))) hb11 h
              try simp only [go_sem]
              have hj := posF_to rfl rfl (s_l23Actor_j6_ok a0 a1 false _ h)
              refine seq_to hj (.one ⟨_, .done _, [], [], ?_⟩)
              clear hj
              try simp only [go_sem]
          · replace h := ifF (c := (decide (a0.t = 0))) hb10 h
            try simp only [go_sem]
            have hj := posF_to rfl rfl (s_l23Actor_j6_ok a0 a1 false _ h)
            refine seq_to hj (.one ⟨_, .done _, [], [], ?_⟩)
            clear hj
            try simp only [go_sem]
        · replace h := ifF (c := (decide (a0.pc = 0))) hb9 h
          try simp only [go_sem]
          have hj := posF_to rfl rfl (s_l23Actor_j6_ok a0 a1 false _ h)
          refine seq_to hj (.one ⟨_, .done _, [], [], ?_⟩)
          clear hj
          try simp only [go_sem]
    · intro a0 a1 p1_0 p2_0 r h
      rw [s_l23Actor_j5] at h
      refine posF_of rfl rfl ?_
      try simp only [go_sem]
      refine cond_i (fun hb12 => ?_) (fun hb12 => ?_)
      · replace h := ifT (c := p2_0) hb12 h
        try simp only [go_sem]
        replace h := Option.some.inj h
        obtain rfl := h
        simp only [go_sem]
      · replace h := ifF (c := p2_0) hb12 h
        try simp only [go_sem]
        refine seq_go ?_
        try simp only [go_sem]
        have hj := posF_to rfl rfl (ih0 a0 a1 (IntKind.i64.wrap (p1_0 + 1)) _ h)
        refine lp_to hj (.one ⟨_, .done _, [], [], ?_⟩)
        clear hj
        try simp only [go_sem]
theorem s_l23Actor_l4_ok (n : Nat) : (∀ (a0 : DequeActor) (a1 : Bool) (p1_0 : Int) (r : Bool), s_l23Actor_l4 n a0 a1 p1_0 = some r → posF Try.prog Try.f57 [1, 1, 0, 1, 0] (.bool r) ⟨[(0, .rop [.ro (List.map i64D a0.todo), .int .i64 a0.pc, .int .i64 a0.t, .int .i64 a0.b, .int .i64 a0.x] 0), (1, .bool a1), (5, .int .i64 p1_0)], [], []⟩) := (s_l23Actor_l4_all n).1
theorem s_l23Actor_j5_ok (n : Nat) : (∀ (a0 : DequeActor) (a1 : Bool) (p1_0 : Int) (p2_0 : Bool) (r : Bool), s_l23Actor_j5 n a0 a1 p1_0 p2_0 = some r → posF Try.prog Try.f57 [1, 1, 0, 1, 0, 0, 1, 0, 0, 1] (.bool r) ⟨[(0, .rop [.ro (List.map i64D a0.todo), .int .i64 a0.pc, .int .i64 a0.t, .int .i64 a0.b, .int .i64 a0.x] 0), (1, .bool a1), (5, .int .i64 p1_0), (76, .bool p2_0)], [], []⟩) := (s_l23Actor_l4_all n).2

theorem s_l23Actor_j1_ok (a0 : DequeActor) (a1 : Bool) (p0_0 : Bool) (r : Bool) (h : s_l23Actor_j1 a0 a1 p0_0 = some r) : posF Try.prog Try.f57 [1, 0, 1] (.bool r) ⟨[(0, .rop [.ro (List.map i64D a0.todo), .int .i64 a0.pc, .int .i64 a0.t, .int .i64 a0.b, .int .i64 a0.x] 0), (1, .bool a1), (44, .bool p0_0)], [], []⟩ := by
  unfold s_l23Actor_j1 at h
  refine posF_of rfl rfl ?_
  try simp only [go_sem]
  refine cond_i (fun hb5 => ?_) (fun hb5 => ?_)
  · replace h := ifT (c := p0_0) hb5 h
    try simp only [go_sem]
    replace h := Option.some.inj h
    obtain rfl := h
    simp only [go_sem]
  · replace h := ifF (c := p0_0) hb5 h
    try simp only [go_sem]
    refine seq_go ?_
    try simp only [go_sem]
    have hj := posF_to rfl rfl (s_l23Actor_l4_ok fuel a0 a1 0 _ h)
    refine loop_to hj (.one ⟨_, .done _, [], [], ?_⟩)
    clear hj
    try simp only [go_sem]
theorem s_l23Actor_ok (a0 : DequeActor) (a1 : Bool) (r : Bool) (h : s_l23Actor a0 a1 = some r) : AC Try.prog 57 [.rop (DequeActor.avs a0) 0, .bool a1] (.bool r) := by
  unfold s_l23Actor at h
  refine ac_fn mixed Try.func57 rfl rfl rfl (by kernel_rfl) (by kernel_rfl) ?_
  try simp only [go_sem]
  refine cond_i (fun hb1 => ?_) (fun hb1 => ?_)
  · replace h := ifT (c := (decide (10 < ((List.length a0.todo : Nat) : Int)))) hb1 h
    try simp only [go_sem]
    have hj := posF_to rfl rfl (s_l23Actor_j1_ok a0 a1 true _ h)
    refine seq_to hj (.one ⟨_, .done _, [], [], ?_⟩)
    clear hj
    try simp only [go_sem]
  · replace h := ifF (c := (decide (10 < ((List.length a0.todo : Nat) : Int)))) hb1 h
    try simp only [go_sem]
    replace h := bindE h
    obtain ⟨v2011, hv2011, h⟩ := h
    refine call_i (s_l00In_ok _ _ _ _ hv2011) ?_
    try simp only [go_sem]
    refine cond_i (fun hb2 => ?_) (fun hb2 => ?_)
    · replace h := ifT (c := (!v2011)) hb2 h
      try simp only [go_sem]
      have hj := posF_to rfl rfl (s_l23Actor_j1_ok a0 a1 true _ h)
      refine seq_to hj (.one ⟨_, .done _, [], [], ?_⟩)
      clear hj
      try simp only [go_sem]
    · replace h := ifF (c := (!v2011)) hb2 h
      try simp only [go_sem]
      replace h := bindE h
      obtain ⟨v2019, hv2019, h⟩ := h
      refine call_i (s_l00In_ok _ _ _ _ hv2019) ?_
      try simp only [go_sem]
      refine cond_i (fun hb3 => ?_) (fun hb3 => ?_)
      · replace h := ifT (c := (!v2019)) hb3 h
        try simp only [go_sem]
        have hj := posF_to rfl rfl (s_l23Actor_j1_ok a0 a1 true _ h)
        refine seq_to hj (.one ⟨_, .done _, [], [], ?_⟩)
        clear hj
        try simp only [go_sem]
      · replace h := ifF (c := (!v2019)) hb3 h
        try simp only [go_sem]
        replace h := bindE h
        obtain ⟨v2027, hv2027, h⟩ := h
        refine call_i (s_l00In_ok _ _ _ _ hv2027) ?_
        try simp only [go_sem]
        refine cond_i (fun hb4 => ?_) (fun hb4 => ?_)
        · replace h := ifT (c := (!v2027)) hb4 h
          try simp only [go_sem]
          have hj := posF_to rfl rfl (s_l23Actor_j1_ok a0 a1 true _ h)
          refine seq_to hj (.one ⟨_, .done _, [], [], ?_⟩)
          clear hj
          try simp only [go_sem]
        · replace h := ifF (c := (!v2027)) hb4 h
          try simp only [go_sem]
          replace h := bindE h
          obtain ⟨v2035, hv2035, h⟩ := h
          refine call_i (s_l00In_ok _ _ _ _ hv2035) ?_
          try simp only [go_sem]
          have hj := posF_to rfl rfl (s_l23Actor_j1_ok a0 a1 (!v2035) _ h)
          refine seq_to hj (.one ⟨_, .done _, [], [], ?_⟩)
          clear hj
          try simp only [go_sem]
theorem s_l23Room_j2_ok (a0 : Deque) (p1_0 : Int) (r : Bool) (h : s_l23Room_j2 a0 p1_0 = some r) : posF Try.prog Try.f58 [1, 1, 1, 1] (.bool r) ⟨[(0, .rop [.int .i64 a0.top, .int .i64 a0.bottom, .ro (List.map i64D a0.buffer), .ro (List.map DequeActor.ds a0.actors), .ro (List.map Handed.ds a0.taken), .ro (List.map i64D a0.refused)] 0), (4, .int .i64 p1_0)], [], []⟩ := by
  unfold s_l23Room_j2 at h
  refine posF_of rfl rfl ?_
  try simp only [go_sem]
  refine draw_i [] .fin (by kernel_rfl) ?_
  try simp only [go_sem]
  replace h := bindE h
  obtain ⟨v6015, hv6015, h⟩ := h
  refine call_i (s_l00In_ok _ _ _ _ hv6015) ?_
  try simp only [go_sem]
  refine seq_go ?_
  try simp only [go_sem]
  replace h := Option.some.inj h
  obtain rfl := h
  simp only [go_sem]
theorem s_l23Room_j1_ok (a0 : Deque) (p0_0 : Bool) (r : Bool) (h : s_l23Room_j1 a0 p0_0 = some r) : posF Try.prog Try.f58 [1, 1, 1, 0, 1] (.bool r) ⟨[(0, .rop [.int .i64 a0.top, .int .i64 a0.bottom, .ro (List.map i64D a0.buffer), .ro (List.map DequeActor.ds a0.actors), .ro (List.map Handed.ds a0.taken), .ro (List.map i64D a0.refused)] 0), (4, .int .i64 0), (23, .bool p0_0)], [], []⟩ := by
  unfold s_l23Room_j1 at h
  refine posF_of rfl rfl ?_
  try simp only [go_sem]
  refine cond_i (fun hb2 => ?_) (fun hb2 => ?_)
  · replace h := ifT (c := p0_0) hb2 h
    try simp only [go_sem]
    have hj := posF_to rfl rfl (s_l23Room_j2_ok a0 (-1) _ h)
    refine seq_to hj (.one ⟨_, .done _, [], [], ?_⟩)
    clear hj
    try simp only [go_sem]
  · replace h := ifF (c := p0_0) hb2 h
    try simp only [go_sem]
    have hj := posF_to rfl rfl (s_l23Room_j2_ok a0 0 _ h)
    refine seq_to hj (.one ⟨_, .done _, [], [], ?_⟩)
    clear hj
    try simp only [go_sem]
theorem s_l23Room_ok (a0 : Deque) (r : Bool) (h : s_l23Room a0 = some r) : AC Try.prog 58 [.rop (Deque.avs a0) 0] (.bool r) := by
  unfold s_l23Room at h
  refine ac_fn mixed Try.func58 rfl rfl rfl (by kernel_rfl) (by kernel_rfl) ?_
  try simp only [go_sem]
  replace h := bindE h
  obtain ⟨v2004, hv2004, h⟩ := h
  refine idx_m hv2004 (DequeActor.ds_len _) ?_
  try simp only [go_sem]
  refine cond_i (fun hb1 => ?_) (fun hb1 => ?_)
  · replace h := ifT (c := (decide (0 < v2004.pc))) hb1 h
    try simp only [go_sem]
    replace h := bindE h
    obtain ⟨v4010, hv4010, h⟩ := h
    refine idx_m hv4010 rfl ?_
    try simp only [go_sem]
    have hj := posF_to rfl rfl (s_l23Room_j1_ok a0 (decide (v4010 = 0)) _ h)
    refine seq_to hj (.one ⟨_, .done _, [], [], ?_⟩)
    clear hj
    try simp only [go_sem]
  · replace h := ifF (c := (decide (0 < v2004.pc))) hb1 h
    try simp only [go_sem]
    have hj := posF_to rfl rfl (s_l23Room_j1_ok a0 false _ h)
    refine seq_to hj (.one ⟨_, .done _, [], [], ?_⟩)
    clear hj
    try simp only [go_sem]
theorem s_l23Ok_l11_all (n : Nat) : (∀ (a0 : Deque) (p6_0 : Int) (r : Bool), s_l23Ok_l11 n a0 p6_0 = some r → posF Try.prog Try.f29 [1, 1, 1, 1, 1, 1, 0, 1, 0] (.bool r) ⟨[(0, .rop [.int .i64 a0.top, .int .i64 a0.bottom, .ro (List.map i64D a0.buffer), .ro (List.map DequeActor.ds a0.actors), .ro (List.map Handed.ds a0.taken), .ro (List.map i64D a0.refused)] 0), (7, .int .i64 p6_0)], [], []⟩) := by
  induction n with
  | zero => exact ((fun _ _ _ h => by rw [s_l23Ok_l11] at h; cases h))
  | succ n ih =>
    have ih0 := ih
    · intro a0 p6_0 r h
      rw [s_l23Ok_l11] at h
      refine posF_of rfl rfl ?_
      try simp only [go_sem]
      refine loop_i ?_
      try simp only [go_sem]
      refine cond_i (fun hb15 => ?_) (fun hb15 => ?_)
      · replace h := ifT (c := (decide (p6_0 < ((List.length a0.refused : Nat) : Int)))) hb15 h
        try simp only [go_sem]
        refine seq_go ?_
        try simp only [go_sem]
        replace h := bindE h
        obtain ⟨v23005, hv23005, h⟩ := h
        refine idx_m hv23005 rfl ?_
        try simp only [go_sem]
        replace h := bindE h
        obtain ⟨v23007, hv23007, h⟩ := h
        refine call_i (s_l23Task_ok _ _ hv23007) ?_
        try simp only [go_sem]
        refine cond_i (fun hb16 => ?_) (fun hb16 => ?_)
        · replace h := ifT (c := (!v23007)) hb16 h
          try simp only [go_sem]
          replace h := Option.some.inj h
          obtain rfl := h
          simp only [go_sem]
        · replace h := ifF (c := (!v23007)) hb16 h
          try simp only [go_sem]
          refine seq_go ?_
          try simp only [go_sem]
          have hj := posF_to rfl rfl (ih0 a0 (IntKind.i64.wrap (p6_0 + 1)) _ h)
          refine lp_to hj (.one ⟨_, .done _, [], [], ?_⟩)
          clear hj
          try simp only [go_sem]
      · replace h := ifF (c := (decide (p6_0 < ((List.length a0.refused : Nat) : Int)))) hb15 h
        try simp only [go_sem]
        refine seq_go ?_
        try simp only [go_sem]
        replace h := bindE h
        obtain ⟨v25001, hv25001, h⟩ := h
        refine call_i (s_l23Room_ok _ _ hv25001) ?_
        try simp only [go_sem]
        replace h := Option.some.inj h
        obtain rfl := h
        simp only [go_sem]
theorem s_l23Ok_l11_ok (n : Nat) : (∀ (a0 : Deque) (p6_0 : Int) (r : Bool), s_l23Ok_l11 n a0 p6_0 = some r → posF Try.prog Try.f29 [1, 1, 1, 1, 1, 1, 0, 1, 0] (.bool r) ⟨[(0, .rop [.int .i64 a0.top, .int .i64 a0.bottom, .ro (List.map i64D a0.buffer), .ro (List.map DequeActor.ds a0.actors), .ro (List.map Handed.ds a0.taken), .ro (List.map i64D a0.refused)] 0), (7, .int .i64 p6_0)], [], []⟩) := (s_l23Ok_l11_all n)

theorem s_l23Ok_l9_all (n : Nat) : (∀ (a0 : Deque) (p4_0 : Int) (r : Bool), s_l23Ok_l9 n a0 p4_0 = some r → posF Try.prog Try.f29 [1, 1, 1, 1, 1, 0, 1, 0] (.bool r) ⟨[(0, .rop [.int .i64 a0.top, .int .i64 a0.bottom, .ro (List.map i64D a0.buffer), .ro (List.map DequeActor.ds a0.actors), .ro (List.map Handed.ds a0.taken), .ro (List.map i64D a0.refused)] 0), (6, .int .i64 p4_0)], [], []⟩) ∧
    (∀ (a0 : Deque) (p4_0 : Int) (p5_0 : Bool) (r : Bool), s_l23Ok_j10 n a0 p4_0 p5_0 = some r → posF Try.prog Try.f29 [1, 1, 1, 1, 1, 0, 1, 0, 0, 1, 0, 0, 1] (.bool r) ⟨[(0, .rop [.int .i64 a0.top, .int .i64 a0.bottom, .ro (List.map i64D a0.buffer), .ro (List.map DequeActor.ds a0.actors), .ro (List.map Handed.ds a0.taken), .ro (List.map i64D a0.refused)] 0), (6, .int .i64 p4_0), (140, .bool p5_0)], [], []⟩) := by
  induction n with
  | zero => exact ⟨(fun _ _ _ h => by rw [s_l23Ok_l9] at h; cases h), (fun _ _ _ _ h => by rw [s_l23Ok_j10] at h; cases h)⟩
  | succ n ih =>
    obtain ⟨ih0, ih1⟩ := ih
    refine ⟨?_, ?_⟩
    · intro a0 p4_0 r h
      rw [s_l23Ok_l9] at h
      refine posF_of rfl rfl ?_
      try simp only [go_sem]
      refine loop_i ?_
      try simp only [go_sem]
      refine cond_i (fun hb12 => ?_) (fun hb12 => ?_)
      · replace h := ifT (c := (decide (p4_0 < ((List.length a0.taken : Nat) : Int)))) hb12 h
        try simp only [go_sem]
        refine seq_go ?_
        try simp only [go_sem]
        refine draw_i [] .fin (by kernel_rfl) ?_
        try simp only [go_sem]
        replace h := bindE h
        obtain ⟨v18005, hv18005, h⟩ := h
        refine idx_m hv18005 (Handed.ds_len _) ?_
        try simp only [go_sem]
        replace h := bindE h
        obtain ⟨v18014, hv18014, h⟩ := h
        refine call_i (s_l00In_ok _ _ _ _ hv18014) ?_
        try simp only [go_sem]
        refine cond_i (fun hb13 => ?_) (fun hb13 => ?_)
        · replace h := ifT (c := (!v18014)) hb13 h
          try simp only [go_sem]
          have hj := posF_to rfl rfl (ih1 a0 p4_0 true _ h)
          refine seq_to hj (.one ⟨_, .done _, [], [], ?_⟩)
          clear hj
          try simp only [go_sem]
        · replace h := ifF (c := (!v18014)) hb13 h
          try simp only [go_sem]
          replace h := bindE h
          obtain ⟨v18022, hv18022, h⟩ := h
          refine idx_m hv18022 (Handed.ds_len _) ?_
          try simp only [go_sem]
          replace h := bindE h
          obtain ⟨v18025, hv18025, h⟩ := h
          refine call_i (s_l00In_ok _ _ _ _ hv18025) ?_
          try simp only [go_sem]
          have hj := posF_to rfl rfl (ih1 a0 p4_0 (!v18025) _ h)
          refine seq_to hj (.one ⟨_, .done _, [], [], ?_⟩)
          clear hj
          try simp only [go_sem]
      · replace h := ifF (c := (decide (p4_0 < ((List.length a0.taken : Nat) : Int)))) hb12 h
        try simp only [go_sem]
        refine seq_go ?_
        try simp only [go_sem]
        have hj := posF_to rfl rfl (s_l23Ok_l11_ok fuel a0 0 _ h)
        refine loop_to hj (.one ⟨_, .done _, [], [], ?_⟩)
        clear hj
        try simp only [go_sem]
    · intro a0 p4_0 p5_0 r h
      rw [s_l23Ok_j10] at h
      refine posF_of rfl rfl ?_
      try simp only [go_sem]
      refine cond_i (fun hb14 => ?_) (fun hb14 => ?_)
      · replace h := ifT (c := p5_0) hb14 h
        try simp only [go_sem]
        replace h := Option.some.inj h
        obtain rfl := h
        simp only [go_sem]
      · replace h := ifF (c := p5_0) hb14 h
        try simp only [go_sem]
        refine seq_go ?_
        try simp only [go_sem]
        have hj := posF_to rfl rfl (ih0 a0 (IntKind.i64.wrap (p4_0 + 1)) _ h)
        refine lp_to hj (.one ⟨_, .done _, [], [], ?_⟩)
        clear hj
        try simp only [go_sem]
theorem s_l23Ok_l9_ok (n : Nat) : (∀ (a0 : Deque) (p4_0 : Int) (r : Bool), s_l23Ok_l9 n a0 p4_0 = some r → posF Try.prog Try.f29 [1, 1, 1, 1, 1, 0, 1, 0] (.bool r) ⟨[(0, .rop [.int .i64 a0.top, .int .i64 a0.bottom, .ro (List.map i64D a0.buffer), .ro (List.map DequeActor.ds a0.actors), .ro (List.map Handed.ds a0.taken), .ro (List.map i64D a0.refused)] 0), (6, .int .i64 p4_0)], [], []⟩) := (s_l23Ok_l9_all n).1
theorem s_l23Ok_j10_ok (n : Nat) : (∀ (a0 : Deque) (p4_0 : Int) (p5_0 : Bool) (r : Bool), s_l23Ok_j10 n a0 p4_0 p5_0 = some r → posF Try.prog Try.f29 [1, 1, 1, 1, 1, 0, 1, 0, 0, 1, 0, 0, 1] (.bool r) ⟨[(0, .rop [.int .i64 a0.top, .int .i64 a0.bottom, .ro (List.map i64D a0.buffer), .ro (List.map DequeActor.ds a0.actors), .ro (List.map Handed.ds a0.taken), .ro (List.map i64D a0.refused)] 0), (6, .int .i64 p4_0), (140, .bool p5_0)], [], []⟩) := (s_l23Ok_l9_all n).2

theorem s_l23Ok_l6_all (n : Nat) : (∀ (a0 : Deque) (p3_0 : Int) (r : Bool), s_l23Ok_l6 n a0 p3_0 = some r → posF Try.prog Try.f29 [1, 1, 1, 1, 0, 1, 0] (.bool r) ⟨[(0, .rop [.int .i64 a0.top, .int .i64 a0.bottom, .ro (List.map i64D a0.buffer), .ro (List.map DequeActor.ds a0.actors), .ro (List.map Handed.ds a0.taken), .ro (List.map i64D a0.refused)] 0), (5, .int .i64 p3_0)], [], []⟩) := by
  induction n with
  | zero => exact ((fun _ _ _ h => by rw [s_l23Ok_l6] at h; cases h))
  | succ n ih =>
    have ih0 := ih
    · intro a0 p3_0 r h
      rw [s_l23Ok_l6] at h
      refine posF_of rfl rfl ?_
      try simp only [go_sem]
      refine loop_i ?_
      try simp only [go_sem]
      refine cond_i (fun hb10 => ?_) (fun hb10 => ?_)
      · replace h := ifT (c := (decide (p3_0 < ((List.length a0.actors : Nat) : Int)))) hb10 h
        try simp only [go_sem]
        refine seq_go ?_
        try simp only [go_sem]
        replace h := bindE h
        obtain ⟨v13005, hv13005, h⟩ := h
        refine idx_m hv13005 (DequeActor.ds_len _) ?_
        try simp only [go_sem]
        replace h := bindE h
        obtain ⟨v13008, hv13008, h⟩ := h
        refine call_i (s_l23Actor_ok _ _ _ hv13008) ?_
        try simp only [go_sem]
        refine cond_i (fun hb11 => ?_) (fun hb11 => ?_)
        · replace h := ifT (c := (!v13008)) hb11 h
          try simp only [go_sem]
          replace h := Option.some.inj h
          obtain rfl := h
          simp only [go_sem]
        · replace h := ifF (c := (!v13008)) hb11 h
          try simp only [go_sem]
          refine seq_go ?_
          try simp only [go_sem]
          have hj := posF_to rfl rfl (ih0 a0 (IntKind.i64.wrap (p3_0 + 1)) _ h)
          refine lp_to hj (.one ⟨_, .done _, [], [], ?_⟩)
          clear hj
          try simp only [go_sem]
      · replace h := ifF (c := (decide (p3_0 < ((List.length a0.actors : Nat) : Int)))) hb10 h
        try simp only [go_sem]
        refine seq_go ?_
        try simp only [go_sem]
        have hj := posF_to rfl rfl (s_l23Ok_l9_ok fuel a0 0 _ h)
        refine loop_to hj (.one ⟨_, .done _, [], [], ?_⟩)
        clear hj
        try simp only [go_sem]
theorem s_l23Ok_l6_ok (n : Nat) : (∀ (a0 : Deque) (p3_0 : Int) (r : Bool), s_l23Ok_l6 n a0 p3_0 = some r → posF Try.prog Try.f29 [1, 1, 1, 1, 0, 1, 0] (.bool r) ⟨[(0, .rop [.int .i64 a0.top, .int .i64 a0.bottom, .ro (List.map i64D a0.buffer), .ro (List.map DequeActor.ds a0.actors), .ro (List.map Handed.ds a0.taken), .ro (List.map i64D a0.refused)] 0), (5, .int .i64 p3_0)], [], []⟩) := (s_l23Ok_l6_all n)

theorem s_l23Ok_l4_all (n : Nat) : (∀ (a0 : Deque) (p1_0 : Int) (r : Bool), s_l23Ok_l4 n a0 p1_0 = some r → posF Try.prog Try.f29 [1, 1, 1, 0, 1, 0] (.bool r) ⟨[(0, .rop [.int .i64 a0.top, .int .i64 a0.bottom, .ro (List.map i64D a0.buffer), .ro (List.map DequeActor.ds a0.actors), .ro (List.map Handed.ds a0.taken), .ro (List.map i64D a0.refused)] 0), (4, .int .i64 p1_0)], [], []⟩) ∧
    (∀ (a0 : Deque) (p1_0 : Int) (p2_0 : Bool) (r : Bool), s_l23Ok_j5 n a0 p1_0 p2_0 = some r → posF Try.prog Try.f29 [1, 1, 1, 0, 1, 0, 0, 1, 0, 0, 1] (.bool r) ⟨[(0, .rop [.int .i64 a0.top, .int .i64 a0.bottom, .ro (List.map i64D a0.buffer), .ro (List.map DequeActor.ds a0.actors), .ro (List.map Handed.ds a0.taken), .ro (List.map i64D a0.refused)] 0), (4, .int .i64 p1_0), (84, .bool p2_0)], [], []⟩) := by
  induction n with
  | zero => exact ⟨(fun _ _ _ h => by rw [s_l23Ok_l4] at h; cases h), (fun _ _ _ _ h => by rw [s_l23Ok_j5] at h; cases h)⟩
  | succ n ih =>
    obtain ⟨ih0, ih1⟩ := ih
    refine ⟨?_, ?_⟩
    · intro a0 p1_0 r h
      rw [s_l23Ok_l4] at h
      refine posF_of rfl rfl ?_
      try simp only [go_sem]
      refine loop_i ?_
      try simp only [go_sem]
      refine cond_i (fun hb7 => ?_) (fun hb7 => ?_)
      · replace h := ifT (c := (decide (p1_0 < ((List.length a0.buffer : Nat) : Int)))) hb7 h
        try simp only [go_sem]
        refine seq_go ?_
        try simp only [go_sem]
        replace h := bindE h
        obtain ⟨v8005, hv8005, h⟩ := h
        refine idx_m hv8005 rfl ?_
        try simp only [go_sem]
        refine cond_i (fun hb8 => ?_) (fun hb8 => ?_)
        · replace h := ifT (c := (!decide (v8005 = 0))) hb8 h
          try simp only [go_sem]
          replace h := bindE h
          obtain ⟨v8014, hv8014, h⟩ := h
          refine idx_m hv8014 rfl ?_
          try simp only [go_sem]
          replace h := bindE h
          obtain ⟨v8016, hv8016, h⟩ := h
          refine call_i (s_l23Task_ok _ _ hv8016) ?_
          try simp only [go_sem]
          have hj := posF_to rfl rfl (ih1 a0 p1_0 (!v8016) _ h)
          refine seq_to hj (.one ⟨_, .done _, [], [], ?_⟩)
          clear hj
          try simp only [go_sem]
        · replace h := ifF (c := (!decide (v8005 = 0))) hb8 h
          try simp only [go_sem]
          have hj := posF_to rfl rfl (ih1 a0 p1_0 false _ h)
          refine seq_to hj (.one ⟨_, .done _, [], [], ?_⟩)
          clear hj
          try simp only [go_sem]
      · replace h := ifF (c := (decide (p1_0 < ((List.length a0.buffer : Nat) : Int)))) hb7 h
        try simp only [go_sem]
        refine seq_go ?_
        try simp only [go_sem]
        have hj := posF_to rfl rfl (s_l23Ok_l6_ok fuel a0 0 _ h)
        refine loop_to hj (.one ⟨_, .done _, [], [], ?_⟩)
        clear hj
        try simp only [go_sem]
    · intro a0 p1_0 p2_0 r h
      rw [s_l23Ok_j5] at h
      refine posF_of rfl rfl ?_
      try simp only [go_sem]
      refine cond_i (fun hb9 => ?_) (fun hb9 => ?_)
      · replace h := ifT (c := p2_0) hb9 h
        try simp only [go_sem]
        replace h := Option.some.inj h
        obtain rfl := h
        simp only [go_sem]
      · replace h := ifF (c := p2_0) hb9 h
        try simp only [go_sem]
        refine seq_go ?_
        try simp only [go_sem]
        have hj := posF_to rfl rfl (ih0 a0 (IntKind.i64.wrap (p1_0 + 1)) _ h)
        refine lp_to hj (.one ⟨_, .done _, [], [], ?_⟩)
        clear hj
        try simp only [go_sem]
theorem s_l23Ok_l4_ok (n : Nat) : (∀ (a0 : Deque) (p1_0 : Int) (r : Bool), s_l23Ok_l4 n a0 p1_0 = some r → posF Try.prog Try.f29 [1, 1, 1, 0, 1, 0] (.bool r) ⟨[(0, .rop [.int .i64 a0.top, .int .i64 a0.bottom, .ro (List.map i64D a0.buffer), .ro (List.map DequeActor.ds a0.actors), .ro (List.map Handed.ds a0.taken), .ro (List.map i64D a0.refused)] 0), (4, .int .i64 p1_0)], [], []⟩) := (s_l23Ok_l4_all n).1
theorem s_l23Ok_j5_ok (n : Nat) : (∀ (a0 : Deque) (p1_0 : Int) (p2_0 : Bool) (r : Bool), s_l23Ok_j5 n a0 p1_0 p2_0 = some r → posF Try.prog Try.f29 [1, 1, 1, 0, 1, 0, 0, 1, 0, 0, 1] (.bool r) ⟨[(0, .rop [.int .i64 a0.top, .int .i64 a0.bottom, .ro (List.map i64D a0.buffer), .ro (List.map DequeActor.ds a0.actors), .ro (List.map Handed.ds a0.taken), .ro (List.map i64D a0.refused)] 0), (4, .int .i64 p1_0), (84, .bool p2_0)], [], []⟩) := (s_l23Ok_l4_all n).2

theorem s_l23Ok_j1_ok (a0 : Deque) (p0_0 : Bool) (r : Bool) (h : s_l23Ok_j1 a0 p0_0 = some r) : posF Try.prog Try.f29 [1, 1, 0, 1] (.bool r) ⟨[(0, .rop [.int .i64 a0.top, .int .i64 a0.bottom, .ro (List.map i64D a0.buffer), .ro (List.map DequeActor.ds a0.actors), .ro (List.map Handed.ds a0.taken), .ro (List.map i64D a0.refused)] 0), (56, .bool p0_0)], [], []⟩ := by
  unfold s_l23Ok_j1 at h
  refine posF_of rfl rfl ?_
  try simp only [go_sem]
  refine cond_i (fun hb6 => ?_) (fun hb6 => ?_)
  · replace h := ifT (c := p0_0) hb6 h
    try simp only [go_sem]
    replace h := Option.some.inj h
    obtain rfl := h
    simp only [go_sem]
  · replace h := ifF (c := p0_0) hb6 h
    try simp only [go_sem]
    refine seq_go ?_
    try simp only [go_sem]
    have hj := posF_to rfl rfl (s_l23Ok_l4_ok fuel a0 0 _ h)
    refine loop_to hj (.one ⟨_, .done _, [], [], ?_⟩)
    clear hj
    try simp only [go_sem]
theorem s_l23Ok_ok (a0 : Deque) (r : Bool) (h : s_l23Ok a0 = some r) : AC Try.prog 29 [.rop (Deque.avs a0) 0] (.bool r) := by
  unfold s_l23Ok at h
  refine ac_fn mixed Try.func29 rfl rfl rfl (by kernel_rfl) (by kernel_rfl) ?_
  try simp only [go_sem]
  replace h := bindE h
  obtain ⟨v3001, hv3001, h⟩ := h
  refine call_i (s_l00In_ok _ _ _ _ hv3001) ?_
  try simp only [go_sem]
  refine cond_i (fun hb1 => ?_) (fun hb1 => ?_)
  · replace h := ifT (c := (!v3001)) hb1 h
    try simp only [go_sem]
    have hj := posF_to rfl rfl (s_l23Ok_j1_ok a0 true _ h)
    refine seq_to hj (.one ⟨_, .done _, [], [], ?_⟩)
    clear hj
    try simp only [go_sem]
  · replace h := ifF (c := (!v3001)) hb1 h
    try simp only [go_sem]
    replace h := bindE h
    obtain ⟨v3008, hv3008, h⟩ := h
    refine call_i (s_l00In_ok _ _ _ _ hv3008) ?_
    try simp only [go_sem]
    refine cond_i (fun hb2 => ?_) (fun hb2 => ?_)
    · replace h := ifT (c := (!v3008)) hb2 h
      try simp only [go_sem]
      have hj := posF_to rfl rfl (s_l23Ok_j1_ok a0 true _ h)
      refine seq_to hj (.one ⟨_, .done _, [], [], ?_⟩)
      clear hj
      try simp only [go_sem]
    · replace h := ifF (c := (!v3008)) hb2 h
      try simp only [go_sem]
      replace h := bindE h
      obtain ⟨v3016, hv3016, h⟩ := h
      refine call_i (s_l00In_ok _ _ _ _ hv3016) ?_
      try simp only [go_sem]
      refine cond_i (fun hb3 => ?_) (fun hb3 => ?_)
      · replace h := ifT (c := (!v3016)) hb3 h
        try simp only [go_sem]
        have hj := posF_to rfl rfl (s_l23Ok_j1_ok a0 true _ h)
        refine seq_to hj (.one ⟨_, .done _, [], [], ?_⟩)
        clear hj
        try simp only [go_sem]
      · replace h := ifF (c := (!v3016)) hb3 h
        try simp only [go_sem]
        replace h := bindE h
        obtain ⟨v3025, hv3025, h⟩ := h
        refine call_i (s_l00In_ok _ _ _ _ hv3025) ?_
        try simp only [go_sem]
        refine cond_i (fun hb4 => ?_) (fun hb4 => ?_)
        · replace h := ifT (c := (!v3025)) hb4 h
          try simp only [go_sem]
          have hj := posF_to rfl rfl (s_l23Ok_j1_ok a0 true _ h)
          refine seq_to hj (.one ⟨_, .done _, [], [], ?_⟩)
          clear hj
          try simp only [go_sem]
        · replace h := ifF (c := (!v3025)) hb4 h
          try simp only [go_sem]
          refine cond_i (fun hb5 => ?_) (fun hb5 => ?_)
          · replace h := ifT (c := (decide (1000 < ((List.length a0.taken : Nat) : Int)))) hb5 h
            try simp only [go_sem]
            have hj := posF_to rfl rfl (s_l23Ok_j1_ok a0 true _ h)
            refine seq_to hj (.one ⟨_, .done _, [], [], ?_⟩)
            clear hj
            try simp only [go_sem]
          · replace h := ifF (c := (decide (1000 < ((List.length a0.taken : Nat) : Int)))) hb5 h
            try simp only [go_sem]
            have hj := posF_to rfl rfl (s_l23Ok_j1_ok a0 (decide (1000 < ((List.length a0.refused : Nat) : Int))) _ h)
            refine seq_to hj (.one ⟨_, .done _, [], [], ?_⟩)
            clear hj
            try simp only [go_sem]
theorem s_l23At_ok (a0 : Deque) (a1 : Int) (r : Int) (h : s_l23At a0 a1 = some r) : AC Try.prog 59 [.rop (Deque.avs a0) 0, .int .i64 a1] (.int .i64 r) := by
  unfold s_l23At at h
  refine ac_fn mixed Try.func59 rfl rfl rfl (by kernel_rfl) (by kernel_rfl) ?_
  try simp only [go_sem]
  replace h := bindE h
  obtain ⟨v3002, hv3002, h⟩ := h
  refine and_i (nz_some hv3002) ?_
  try simp only [go_sem]
  replace h := bindE h
  obtain ⟨v3006, hv3006, h⟩ := h
  refine and_i (nz_some hv3006) ?_
  try simp only [go_sem]
  replace h := Option.some.inj h
  obtain rfl := h
  simp only [go_sem]
theorem s_l23Left_l2_all (n : Nat) : (∀ (a0 : Deque) (p1_0 : List Int) (p1_1 : Int) (r : (List Int)), s_l23Left_l2 n a0 p1_0 p1_1 = some r → posF Try.prog Try.f30 [1, 1, 0, 1, 0] (.ow (some 1) (List.map i64D r)) ⟨[(0, .rop [.int .i64 a0.top, .int .i64 a0.bottom, .ro (List.map i64D a0.buffer), .ro (List.map DequeActor.ds a0.actors), .ro (List.map Handed.ds a0.taken), .ro (List.map i64D a0.refused)] 0), (3, .own 1000001000), (4, .int .i64 p1_1)], [(1000001000, some ⟨List.map i64D p1_0, some 1, 0⟩)], []⟩) := by
  induction n with
  | zero => exact ((fun _ _ _ _ h => by rw [s_l23Left_l2] at h; cases h))
  | succ n ih =>
    have ih0 := ih
    · intro a0 p1_0 p1_1 r h
      rw [s_l23Left_l2] at h
      refine posF_of rfl rfl ?_
      try simp only [go_sem]
      refine loop_i ?_
      try simp only [go_sem]
      refine cond_i (fun hb1 => ?_) (fun hb1 => ?_)
      · replace h := ifT (c := (decide (p1_1 < a0.bottom))) hb1 h
        try simp only [go_sem]
        refine seq_go ?_
        try simp only [go_sem]
        refine draw_i [false, false, false, false, false, false, false, false, false, false, false, true, true] (Tr.sq [11, 12] .fin) (by kernel_rfl) ?_
        try simp only [go_sem]
        replace h := bindE h
        obtain ⟨v6007, hv6007, h⟩ := h
        refine call_i (s_l23At_ok _ _ _ hv6007) ?_
        try simp only [go_sem]
        replace h := bindE h
        obtain ⟨v6008, hv6008, h⟩ := h
        refine idx_m hv6008 rfl ?_
        try simp only [go_sem]
        replace h := bindE h
        obtain ⟨v6011, hv6011, h⟩ := h
        have hq_ := app_some hv6011
        obtain ⟨hv6011a, hv6011b⟩ := hq_
        refine and_i (by refine ⟨?_, ?_⟩ <;> (try simp only [List.length_map, List.length_append, List.length_cons, List.length_nil] at *) <;> (try unfold maxLen) <;> omega) ?_
        try simp only [go_sem]
        refine row_i (List.map i64D v6011) (by rw [← hv6011b]; simp only [List.map_append, List.map_cons, List.map_nil, List.nil_append, List.append_nil, go_sem, slD]) ?_
        try simp only [go_sem]
        refine seq_go ?_
        try simp only [go_sem]
        have hj := posF_to rfl rfl (ih0 a0 v6011 (IntKind.i64.wrap (p1_1 + 1)) _ h)
        refine lp_to hj (.one ⟨_, .done _, [(1000001000, 96176)], [], ?_⟩)
        clear hj
        try simp only [go_sem]
      · replace h := ifF (c := (decide (p1_1 < a0.bottom))) hb1 h
        try simp only [go_sem]
        refine seq_go ?_
        try simp only [go_sem]
        replace h := Option.some.inj h
        obtain rfl := h
        simp only [go_sem]
theorem s_l23Left_l2_ok (n : Nat) : (∀ (a0 : Deque) (p1_0 : List Int) (p1_1 : Int) (r : (List Int)), s_l23Left_l2 n a0 p1_0 p1_1 = some r → posF Try.prog Try.f30 [1, 1, 0, 1, 0] (.ow (some 1) (List.map i64D r)) ⟨[(0, .rop [.int .i64 a0.top, .int .i64 a0.bottom, .ro (List.map i64D a0.buffer), .ro (List.map DequeActor.ds a0.actors), .ro (List.map Handed.ds a0.taken), .ro (List.map i64D a0.refused)] 0), (3, .own 1000001000), (4, .int .i64 p1_1)], [(1000001000, some ⟨List.map i64D p1_0, some 1, 0⟩)], []⟩) := (s_l23Left_l2_all n)

theorem s_l23Left_ok (a0 : Deque) (r : (List Int)) (h : s_l23Left a0 = some r) : AC Try.prog 30 [.rop (Deque.avs a0) 0] (.ow (some 1) (List.map i64D r)) := by
  unfold s_l23Left at h
  refine ac_fn mixed Try.func30 rfl rfl rfl (by kernel_rfl) (by kernel_rfl) ?_
  try simp only [go_sem]
  have hj := posF_to rfl rfl (s_l23Left_l2_ok fuel a0 [] a0.top _ h)
  refine loop_to hj (.one ⟨_, .lit 3 2000000000 2000 0 1 [] _ _ (by (first | rfl | (simp only [go_sem]; rfl))) (by simp only [go_sem]; rfl) (by (first | rfl | (simp only [go_sem]; rfl))) (by (first | rfl | (simp only [go_sem]; rfl))) (by decide) (by decide) (by simp only [go_sem]) (.done _), [(1000001000, 2000000000)], [], ?_⟩)
  clear hj
  simp only [go_sem]
  all_goals try rfl
theorem s_TasksLeft_ok (a0 : Deque) (r : (List Int) × Int) (h : s_TasksLeft a0 = some r) : AC Try.prog 7 [.agg (Deque.avs a0)] (.tup [.ow (some 1) (List.map i64D r.1), .int .i64 r.2]) := by
  unfold s_TasksLeft at h
  refine ac_fn mixed Try.func7 rfl rfl rfl (by kernel_rfl) (by kernel_rfl) ?_
  try simp only [go_sem]
  replace h := bindE h
  obtain ⟨v2000, hv2000, h⟩ := h
  refine call_i (s_l23Ok_ok _ _ hv2000) ?_
  try simp only [go_sem]
  refine cond_i (fun hb1 => ?_) (fun hb1 => ?_)
  · replace h := ifT (c := (!v2000)) hb1 h
    try simp only [go_sem]
    replace h := Option.some.inj h
    obtain rfl := h
    simp only [go_sem]
  · replace h := ifF (c := (!v2000)) hb1 h
    try simp only [go_sem]
    refine seq_go ?_
    try simp only [go_sem]
    replace h := bindE h
    obtain ⟨v4000, hv4000, h⟩ := h
    refine call_i (s_l23Left_ok _ _ hv4000) ?_
    try simp only [go_sem]
    replace h := Option.some.inj h
    obtain rfl := h
    simp only [go_sem]
theorem l_toDequeActor_ok (a0 : DequeActor) (r : DequeActor) (h : l_toDequeActor a0 = some r) : AC Try.prog 60 [.agg (DequeActor.avs a0)] (.agg (DequeActor.rv r)) := by
  unfold l_toDequeActor at h
  refine ac_fn mixed Try.func60 rfl rfl rfl (by kernel_rfl) (by kernel_rfl) ?_
  try simp only [go_sem]
  replace h := bindE h
  obtain ⟨v3002, hv3002, h⟩ := h
  refine call_i (l_toInt64S_ok _ _ hv3002) ?_
  try simp only [go_sem]
  replace h := Option.some.inj h
  obtain rfl := h
  simp only [go_sem]
theorem l_toDequeActorS_l2_all (n : Nat) : (∀ (a0 : List DequeActor) (p1_0 : List DequeActor) (p1_1 : Int) (r : (List DequeActor)), l_toDequeActorS_l2 n a0 p1_0 p1_1 = some r → posF Try.prog Try.f31 [1, 1, 0, 1, 0] (.ow (some 5) (List.map DequeActor.ds r)) ⟨[(0, .ro (List.map DequeActor.ds a0)), (3, .own 1000001000), (4, .int .i64 p1_1)], [(1000001000, some ⟨List.map DequeActor.ds p1_0, some 5, 0⟩)], []⟩) := by
  induction n with
  | zero => exact ((fun _ _ _ _ h => by rw [l_toDequeActorS_l2] at h; cases h))
  | succ n ih =>
    have ih0 := ih
    · intro a0 p1_0 p1_1 r h
      rw [l_toDequeActorS_l2] at h
      refine posF_of rfl rfl ?_
      try simp only [go_sem]
      refine loop_i ?_
      try simp only [go_sem]
      refine cond_i (fun hb1 => ?_) (fun hb1 => ?_)
      · replace h := ifT (c := (decide (p1_1 < ((List.length a0 : Nat) : Int)))) hb1 h
        try simp only [go_sem]
        refine seq_go ?_
        try simp only [go_sem]
        replace h := bindE h
        obtain ⟨v6004, hv6004, h⟩ := h
        refine idx_m hv6004 (DequeActor.ds_len _) ?_
        try simp only [go_sem]
        replace h := bindE h
        obtain ⟨v6006, hv6006, h⟩ := h
        refine call_i (l_toDequeActor_ok _ _ hv6006) ?_
        try simp only [go_sem]
        replace h := bindE h
        obtain ⟨v6007, hv6007, h⟩ := h
        refine idx_m hv6007 (DequeActor.ds_len _) ?_
        try simp only [go_sem]
        replace h := bindE h
        obtain ⟨v6008_12, hv6008_12, h⟩ := h
        refine opt_i (row_m hv6007) ?_
        try simp only [go_sem]
        refine row_i (List.map DequeActor.ds v6008_12) (by rw [← set1_some hv6008_12]; simp only [List.map_set, go_sem, DequeActor.ds_eq]) ?_
        try simp only [go_sem]
        refine seq_go ?_
        try simp only [go_sem]
        have hj := posF_to rfl rfl (ih0 a0 v6008_12 (IntKind.i64.wrap (p1_1 + 1)) _ h)
        refine lp_to hj (.one ⟨_, .done _, [(1000001000, 1000001000)], [], ?_⟩)
        clear hj
        try simp only [go_sem]
      · replace h := ifF (c := (decide (p1_1 < ((List.length a0 : Nat) : Int)))) hb1 h
        try simp only [go_sem]
        refine seq_go ?_
        try simp only [go_sem]
        replace h := Option.some.inj h
        obtain rfl := h
        simp only [go_sem]
theorem l_toDequeActorS_l2_ok (n : Nat) : (∀ (a0 : List DequeActor) (p1_0 : List DequeActor) (p1_1 : Int) (r : (List DequeActor)), l_toDequeActorS_l2 n a0 p1_0 p1_1 = some r → posF Try.prog Try.f31 [1, 1, 0, 1, 0] (.ow (some 5) (List.map DequeActor.ds r)) ⟨[(0, .ro (List.map DequeActor.ds a0)), (3, .own 1000001000), (4, .int .i64 p1_1)], [(1000001000, some ⟨List.map DequeActor.ds p1_0, some 5, 0⟩)], []⟩) := (l_toDequeActorS_l2_all n)

theorem l_toDequeActorS_ok (a0 : List DequeActor) (r : (List DequeActor)) (h : l_toDequeActorS a0 = some r) : AC Try.prog 31 [.ro (List.map DequeActor.ds a0)] (.ow (some 5) (List.map DequeActor.ds r)) := by
  unfold l_toDequeActorS at h
  refine ac_fn mixed Try.func31 rfl rfl rfl (by kernel_rfl) (by kernel_rfl) ?_
  try simp only [go_sem]
  replace h := bindE h
  obtain ⟨v2002, hv2002, h⟩ := h
  have hq_ := rep_some hv2002
  obtain ⟨hv2002a, hv2002b, hv2002c⟩ := hq_
  refine and_i (by refine ⟨?_, ?_, ?_⟩ <;> omega) ?_
  try simp only [go_sem]
  refine row_i (List.map DequeActor.ds v2002) (by rw [← hv2002c]; simp only [List.map_replicate, go_sem, DequeActor.ds_eq]) ?_
  try simp only [go_sem]
  have hj := posF_to rfl rfl (l_toDequeActorS_l2_ok fuel a0 v2002 0 _ h)
  refine loop_to hj (.one ⟨_, .done _, [(1000001000, 32032)], [], ?_⟩)
  clear hj
  try simp only [go_sem]
theorem l_toHanded_ok (a0 : Handed) (r : Handed) (h : l_toHanded a0 = some r) : AC Try.prog 61 [.agg (Handed.avs a0)] (.agg (Handed.rv r)) := by
  unfold l_toHanded at h
  refine ac_fn mixed Try.func61 rfl rfl rfl (by kernel_rfl) (by kernel_rfl) ?_
  try simp only [go_sem]
  replace h := Option.some.inj h
  obtain rfl := h
  simp only [go_sem]
theorem l_toHandedS_l2_all (n : Nat) : (∀ (a0 : List Handed) (p1_0 : List Handed) (p1_1 : Int) (r : (List Handed)), l_toHandedS_l2 n a0 p1_0 p1_1 = some r → posF Try.prog Try.f32 [1, 1, 0, 1, 0] (.ow (some 2) (List.map Handed.ds r)) ⟨[(0, .ro (List.map Handed.ds a0)), (3, .own 1000001000), (4, .int .i64 p1_1)], [(1000001000, some ⟨List.map Handed.ds p1_0, some 2, 0⟩)], []⟩) := by
  induction n with
  | zero => exact ((fun _ _ _ _ h => by rw [l_toHandedS_l2] at h; cases h))
  | succ n ih =>
    have ih0 := ih
    · intro a0 p1_0 p1_1 r h
      rw [l_toHandedS_l2] at h
      refine posF_of rfl rfl ?_
      try simp only [go_sem]
      refine loop_i ?_
      try simp only [go_sem]
      refine cond_i (fun hb1 => ?_) (fun hb1 => ?_)
      · replace h := ifT (c := (decide (p1_1 < ((List.length a0 : Nat) : Int)))) hb1 h
        try simp only [go_sem]
        refine seq_go ?_
        try simp only [go_sem]
        replace h := bindE h
        obtain ⟨v6004, hv6004, h⟩ := h
        refine idx_m hv6004 (Handed.ds_len _) ?_
        try simp only [go_sem]
        replace h := bindE h
        obtain ⟨v6006, hv6006, h⟩ := h
        refine call_i (l_toHanded_ok _ _ hv6006) ?_
        try simp only [go_sem]
        replace h := bindE h
        obtain ⟨v6007, hv6007, h⟩ := h
        refine idx_m hv6007 (Handed.ds_len _) ?_
        try simp only [go_sem]
        replace h := bindE h
        obtain ⟨v6008_12, hv6008_12, h⟩ := h
        refine opt_i (row_m hv6007) ?_
        try simp only [go_sem]
        refine row_i (List.map Handed.ds v6008_12) (by rw [← set1_some hv6008_12]; simp only [List.map_set, go_sem, Handed.ds_eq]) ?_
        try simp only [go_sem]
        refine seq_go ?_
        try simp only [go_sem]
        have hj := posF_to rfl rfl (ih0 a0 v6008_12 (IntKind.i64.wrap (p1_1 + 1)) _ h)
        refine lp_to hj (.one ⟨_, .done _, [(1000001000, 1000001000)], [], ?_⟩)
        clear hj
        try simp only [go_sem]
      · replace h := ifF (c := (decide (p1_1 < ((List.length a0 : Nat) : Int)))) hb1 h
        try simp only [go_sem]
        refine seq_go ?_
        try simp only [go_sem]
        replace h := Option.some.inj h
        obtain rfl := h
        simp only [go_sem]
theorem l_toHandedS_l2_ok (n : Nat) : (∀ (a0 : List Handed) (p1_0 : List Handed) (p1_1 : Int) (r : (List Handed)), l_toHandedS_l2 n a0 p1_0 p1_1 = some r → posF Try.prog Try.f32 [1, 1, 0, 1, 0] (.ow (some 2) (List.map Handed.ds r)) ⟨[(0, .ro (List.map Handed.ds a0)), (3, .own 1000001000), (4, .int .i64 p1_1)], [(1000001000, some ⟨List.map Handed.ds p1_0, some 2, 0⟩)], []⟩) := (l_toHandedS_l2_all n)

theorem l_toHandedS_ok (a0 : List Handed) (r : (List Handed)) (h : l_toHandedS a0 = some r) : AC Try.prog 32 [.ro (List.map Handed.ds a0)] (.ow (some 2) (List.map Handed.ds r)) := by
  unfold l_toHandedS at h
  refine ac_fn mixed Try.func32 rfl rfl rfl (by kernel_rfl) (by kernel_rfl) ?_
  try simp only [go_sem]
  replace h := bindE h
  obtain ⟨v2002, hv2002, h⟩ := h
  have hq_ := rep_some hv2002
  obtain ⟨hv2002a, hv2002b, hv2002c⟩ := hq_
  refine and_i (by refine ⟨?_, ?_, ?_⟩ <;> omega) ?_
  try simp only [go_sem]
  refine row_i (List.map Handed.ds v2002) (by rw [← hv2002c]; simp only [List.map_replicate, go_sem, Handed.ds_eq]) ?_
  try simp only [go_sem]
  have hj := posF_to rfl rfl (l_toHandedS_l2_ok fuel a0 v2002 0 _ h)
  refine loop_to hj (.one ⟨_, .done _, [(1000001000, 32032)], [], ?_⟩)
  clear hj
  try simp only [go_sem]
theorem l_toDeque_ok (a0 : Deque) (r : Deque) (h : l_toDeque a0 = some r) : AC Try.prog 8 [.agg (Deque.avs a0)] (.agg (Deque.rv r)) := by
  unfold l_toDeque at h
  refine ac_fn mixed Try.func8 rfl rfl rfl (by kernel_rfl) (by kernel_rfl) ?_
  try simp only [go_sem]
  replace h := bindE h
  obtain ⟨v5002, hv5002, h⟩ := h
  refine call_i (l_toInt64S_ok _ _ hv5002) ?_
  try simp only [go_sem]
  replace h := bindE h
  obtain ⟨v6002, hv6002, h⟩ := h
  refine call_i (l_toDequeActorS_ok _ _ hv6002) ?_
  try simp only [go_sem]
  replace h := bindE h
  obtain ⟨v7002, hv7002, h⟩ := h
  refine call_i (l_toHandedS_ok _ _ hv7002) ?_
  try simp only [go_sem]
  replace h := bindE h
  obtain ⟨v8002, hv8002, h⟩ := h
  refine call_i (l_toInt64S_ok _ _ hv8002) ?_
  try simp only [go_sem]
  replace h := Option.some.inj h
  obtain rfl := h
  simp only [go_sem]
theorem g_IndexFunc_sint64_l1_all (n : Nat) : (∀ (a0 : List Int) (p0_0 : Int) (f1 : (Int → Option Bool)) (g1 : FuncId) (c1 : List AV) (s1 : Still c1) (h1 : ∀ (y0 : Int) (q : Bool), f1 y0 = some q → AC Try.prog g1 (.int .i64 y0 :: c1) (.bool q)) (r : Int), g_IndexFunc_sint64_l1 n a0 p0_0 f1 = some r → posF Try.prog Try.f95 [1, 0, 1, 0] (.int .i64 r) ⟨[(0, .ro (List.map i64D a0)), (1, .fn g1 c1), (7, .int .i64 ((List.length a0 : Nat) : Int)), (8, .int .i64 p0_0)], [], []⟩) := by
  induction n with
  | zero => exact ((fun _ _ _ _ _ _ _ _ h => by rw [g_IndexFunc_sint64_l1] at h; cases h))
  | succ n ih =>
    have ih0 := ih
    · intro a0 p0_0 f1 g1 c1 s1 h1 r h
      rw [g_IndexFunc_sint64_l1] at h
      refine posF_of rfl rfl ?_
      try simp only [go_sem, s1.k, s1.r, s1.c, s1.p]
      refine loop_i ?_
      try simp only [go_sem, s1.k, s1.r, s1.c, s1.p]
      refine cond_i (fun hb1 => ?_) (fun hb1 => ?_)
      · replace h := ifT (c := (decide (p0_0 < ((List.length a0 : Nat) : Int)))) hb1 h
        try simp only [go_sem, s1.k, s1.r, s1.c, s1.p]
        refine seq_go ?_
        try simp only [go_sem, s1.k, s1.r, s1.c, s1.p]
        replace h := bindE h
        obtain ⟨v5003, hv5003, h⟩ := h
        refine idx_m hv5003 rfl ?_
        try simp only [go_sem, s1.k, s1.r, s1.c, s1.p]
        replace h := bindE h
        obtain ⟨v5005, hv5005, h⟩ := h
        refine call_i (h1 _ _ hv5005) ?_
        try simp only [go_sem, s1.k, s1.r, s1.c, s1.p]
        refine cond_i (fun hb2 => ?_) (fun hb2 => ?_)
        · replace h := ifT (c := v5005) hb2 h
          try simp only [go_sem, s1.k, s1.r, s1.c, s1.p]
          replace h := Option.some.inj h
          obtain rfl := h
          simp only [go_sem, s1.k, s1.r, s1.c, s1.p]
        · replace h := ifF (c := v5005) hb2 h
          try simp only [go_sem, s1.k, s1.r, s1.c, s1.p]
          refine seq_go ?_
          try simp only [go_sem, s1.k, s1.r, s1.c, s1.p]
          have hj := posF_to rfl rfl (ih0 a0 (IntKind.i64.wrap (p0_0 + 1)) f1 g1 c1 s1 h1 _ h)
          refine lp_to hj (.one ⟨_, .done _, [], [], ?_⟩)
          clear hj
          try simp only [go_sem, s1.k, s1.r, s1.c, s1.p]
      · replace h := ifF (c := (decide (p0_0 < ((List.length a0 : Nat) : Int)))) hb1 h
        try simp only [go_sem, s1.k, s1.r, s1.c, s1.p]
        refine seq_go ?_
        try simp only [go_sem, s1.k, s1.r, s1.c, s1.p]
        replace h := Option.some.inj h
        obtain rfl := h
        simp only [go_sem, s1.k, s1.r, s1.c, s1.p]
theorem g_IndexFunc_sint64_l1_ok (n : Nat) : (∀ (a0 : List Int) (p0_0 : Int) (f1 : (Int → Option Bool)) (g1 : FuncId) (c1 : List AV) (s1 : Still c1) (h1 : ∀ (y0 : Int) (q : Bool), f1 y0 = some q → AC Try.prog g1 (.int .i64 y0 :: c1) (.bool q)) (r : Int), g_IndexFunc_sint64_l1 n a0 p0_0 f1 = some r → posF Try.prog Try.f95 [1, 0, 1, 0] (.int .i64 r) ⟨[(0, .ro (List.map i64D a0)), (1, .fn g1 c1), (7, .int .i64 ((List.length a0 : Nat) : Int)), (8, .int .i64 p0_0)], [], []⟩) := (g_IndexFunc_sint64_l1_all n)

theorem g_IndexFunc_sint64_ok (a0 : List Int) (f1 : (Int → Option Bool)) (g1 : FuncId) (c1 : List AV) (s1 : Still c1) (h1 : ∀ (y0 : Int) (q : Bool), f1 y0 = some q → AC Try.prog g1 (.int .i64 y0 :: c1) (.bool q)) (r : Int) (h : g_IndexFunc_sint64 a0 f1 = some r) : AC Try.prog 95 [.ro (List.map i64D a0), .fn g1 c1] (.int .i64 r) := by
  unfold g_IndexFunc_sint64 at h
  refine ac_fn mixed Try.func95 rfl rfl rfl (by kernel_rfl) (by kernel_rfl) ?_
  try simp only [go_sem, s1.k, s1.r, s1.c, s1.p]
  have hj := posF_to rfl rfl (g_IndexFunc_sint64_l1_ok fuel a0 0 f1 g1 c1 s1 h1 _ h)
  refine loop_to hj (.one ⟨_, .done _, [], [], ?_⟩)
  clear hj
  try simp only [go_sem, s1.k, s1.r, s1.c, s1.p]
theorem g_ContainsFunc_sint64_ok (a0 : List Int) (f1 : (Int → Option Bool)) (g1 : FuncId) (c1 : List AV) (s1 : Still c1) (h1 : ∀ (y0 : Int) (q : Bool), f1 y0 = some q → AC Try.prog g1 (.int .i64 y0 :: c1) (.bool q)) (r : Bool) (h : g_ContainsFunc_sint64 a0 f1 = some r) : AC Try.prog 62 [.ro (List.map i64D a0), .fn g1 c1] (.bool r) := by
  unfold g_ContainsFunc_sint64 at h
  refine ac_fn mixed Try.func62 rfl rfl rfl (by kernel_rfl) (by kernel_rfl) ?_
  try simp only [go_sem, s1.k, s1.r, s1.c, s1.p]
  replace h := bindE h
  obtain ⟨v2002, hv2002, h⟩ := h
  refine call_i (g_IndexFunc_sint64_ok _ _ g1 c1 s1 h1 _ hv2002) ?_
  try simp only [go_sem, s1.k, s1.r, s1.c, s1.p]
  replace h := Option.some.inj h
  obtain rfl := h
  simp only [go_sem, s1.k, s1.r, s1.c, s1.p]
theorem i_isTask_ok (a0 : Int) (r : Bool) (h : i_isTask a0 = some r) : AC Try.prog 64 [.int .i64 a0] (.bool r) := by
  unfold i_isTask at h
  refine ac_fn mixed Try.func64 rfl rfl rfl (by kernel_rfl) (by kernel_rfl) ?_
  try simp only [go_sem]
  refine cond_i (fun hb1 => ?_) (fun hb1 => ?_)
  · replace h := ifT (c := (decide (1 ≤ a0))) hb1 h
    try simp only [go_sem]
    refine seq_go ?_
    try simp only [go_sem]
    replace h := Option.some.inj h
    obtain rfl := h
    simp only [go_sem]
  · replace h := ifF (c := (decide (1 ≤ a0))) hb1 h
    try simp only [go_sem]
    refine seq_go ?_
    try simp only [go_sem]
    replace h := Option.some.inj h
    obtain rfl := h
    simp only [go_sem]
theorem i_ValidDeque_1_ok (a0 : Int) (r : Bool) (h : i_ValidDeque_1 a0 = some r) : AC Try.prog 63 [.int .i64 a0] (.bool r) := by
  unfold i_ValidDeque_1 at h
  refine ac_fn mixed Try.func63 rfl rfl rfl (by kernel_rfl) (by kernel_rfl) ?_
  try simp only [go_sem]
  refine cond_i (fun hb1 => ?_) (fun hb1 => ?_)
  · replace h := ifT (c := (!decide (a0 = 0))) hb1 h
    try simp only [go_sem]
    replace h := bindE h
    obtain ⟨v2004, hv2004, h⟩ := h
    refine call_i (i_isTask_ok _ _ hv2004) ?_
    try simp only [go_sem]
    refine seq_go ?_
    try simp only [go_sem]
    replace h := Option.some.inj h
    obtain rfl := h
    simp only [go_sem]
  · replace h := ifF (c := (!decide (a0 = 0))) hb1 h
    try simp only [go_sem]
    refine seq_go ?_
    try simp only [go_sem]
    replace h := Option.some.inj h
    obtain rfl := h
    simp only [go_sem]
theorem i_isEnd_ok (a0 : Int) (r : Bool) (h : i_isEnd a0 = some r) : AC Try.prog 65 [.int .i64 a0] (.bool r) := by
  unfold i_isEnd at h
  refine ac_fn mixed Try.func65 rfl rfl rfl (by kernel_rfl) (by kernel_rfl) ?_
  try simp only [go_sem]
  refine cond_i (fun hb1 => ?_) (fun hb1 => ?_)
  · replace h := ifT (c := (decide (0 ≤ a0))) hb1 h
    try simp only [go_sem]
    refine seq_go ?_
    try simp only [go_sem]
    replace h := Option.some.inj h
    obtain rfl := h
    simp only [go_sem]
  · replace h := ifF (c := (decide (0 ≤ a0))) hb1 h
    try simp only [go_sem]
    refine seq_go ?_
    try simp only [go_sem]
    replace h := Option.some.inj h
    obtain rfl := h
    simp only [go_sem]
theorem i_DequeActor_taking_ok (a0 : DequeActor) (r : Bool) (h : i_DequeActor_taking a0 = some r) : AC Try.prog 67 [.agg (DequeActor.avs a0)] (.bool r) := by
  unfold i_DequeActor_taking at h
  refine ac_fn mixed Try.func67 rfl rfl rfl (by kernel_rfl) (by kernel_rfl) ?_
  try simp only [go_sem]
  refine cond_i (fun hb1 => ?_) (fun hb1 => ?_)
  · replace h := ifT (c := (decide (0 < ((List.length a0.todo : Nat) : Int)))) hb1 h
    try simp only [go_sem]
    replace h := bindE h
    obtain ⟨v2007, hv2007, h⟩ := h
    refine idx_m hv2007 rfl ?_
    try simp only [go_sem]
    refine cond_i (fun hb2 => ?_) (fun hb2 => ?_)
    · replace h := ifT (c := (decide (v2007 = 0))) hb2 h
      try simp only [go_sem]
      refine seq_go ?_
      try simp only [go_sem]
      replace h := Option.some.inj h
      obtain rfl := h
      simp only [go_sem]
    · replace h := ifF (c := (decide (v2007 = 0))) hb2 h
      try simp only [go_sem]
      refine seq_go ?_
      try simp only [go_sem]
      replace h := Option.some.inj h
      obtain rfl := h
      simp only [go_sem]
  · replace h := ifF (c := (decide (0 < ((List.length a0.todo : Nat) : Int)))) hb1 h
    try simp only [go_sem]
    refine seq_go ?_
    try simp only [go_sem]
    replace h := Option.some.inj h
    obtain rfl := h
    simp only [go_sem]
theorem i_validActor_1_ok (a0 : Int) (a1 : Bool) (r : Bool) (h : i_validActor_1 a0 a1 = some r) : AC Try.prog 96 [.int .i64 a0, .rop [.bool a1] 0] (.bool r) := by
  unfold i_validActor_1 at h
  refine ac_fn mixed Try.func96 rfl rfl rfl (by kernel_rfl) (by kernel_rfl) ?_
  try simp only [go_sem]
  refine cond_i (fun hb1 => ?_) (fun hb1 => ?_)
  · replace h := ifT (c := (!decide (a0 = 0))) hb1 h
    try simp only [go_sem]
    refine cond_i (fun hb2 => ?_) (fun hb2 => ?_)
    · replace h := ifT (c := (!a1)) hb2 h
      try simp only [go_sem]
      refine seq_go ?_
      try simp only [go_sem]
      replace h := Option.some.inj h
      obtain rfl := h
      simp only [go_sem]
    · replace h := ifF (c := (!a1)) hb2 h
      try simp only [go_sem]
      replace h := bindE h
      obtain ⟨v2007, hv2007, h⟩ := h
      refine call_i (i_isTask_ok _ _ hv2007) ?_
      try simp only [go_sem]
      refine seq_go ?_
      try simp only [go_sem]
      replace h := Option.some.inj h
      obtain rfl := h
      simp only [go_sem]
  · replace h := ifF (c := (!decide (a0 = 0))) hb1 h
    try simp only [go_sem]
    refine seq_go ?_
    try simp only [go_sem]
    replace h := Option.some.inj h
    obtain rfl := h
    simp only [go_sem]
theorem i_validActor_j4_ok (a0 : DequeActor) (p2_0 : Int) (p3_0 : Bool) (r : Bool) (h : i_validActor_j4 a0 p2_0 p3_0 = some r) : posF Try.prog Try.f66 [1, 1, 1, 1, 1, 1] (.bool r) ⟨[(2, .box 1000003500 0), (5, .int .i64 p2_0), (6, .bool p3_0)], [], [(1000003500, some [.ro (List.map i64D a0.todo), .int .i64 a0.pc, .int .i64 a0.t, .int .i64 a0.b, .int .i64 a0.x])]⟩ := by
  unfold i_validActor_j4 at h
  refine posF_of rfl rfl ?_
  try simp only [go_sem]
  refine cond_i (fun hb12 => ?_) (fun hb12 => ?_)
  · replace h := ifT (c := (decide (1 ≤ a0.pc))) hb12 h
    try simp only [go_sem]
    refine cond_i (fun hb13 => ?_) (fun hb13 => ?_)
    · replace h := ifT (c := (decide (a0.pc ≤ p2_0))) hb13 h
      try simp only [go_sem]
      replace h := bindE h
      obtain ⟨v10012, hv10012, h⟩ := h
      refine call_i (i_isEnd_ok _ _ hv10012) ?_
      try simp only [go_sem]
      refine cond_i (fun hb14 => ?_) (fun hb14 => ?_)
      · replace h := ifT (c := v10012) hb14 h
        try simp only [go_sem]
        replace h := bindE h
        obtain ⟨v10017, hv10017, h⟩ := h
        refine call_i (i_isEnd_ok _ _ hv10017) ?_
        try simp only [go_sem]
        refine cond_i (fun hb15 => ?_) (fun hb15 => ?_)
        · replace h := ifT (c := v10017) hb15 h
          try simp only [go_sem]
          refine seq_go ?_
          try simp only [go_sem]
          replace h := Option.some.inj h
          obtain rfl := h
          simp only [go_sem]
        · replace h := ifF (c := v10017) hb15 h
          try simp only [go_sem]
          refine seq_go ?_
          try simp only [go_sem]
          replace h := Option.some.inj h
          obtain rfl := h
          simp only [go_sem]
      · replace h := ifF (c := v10012) hb14 h
        try simp only [go_sem]
        refine seq_go ?_
        try simp only [go_sem]
        replace h := Option.some.inj h
        obtain rfl := h
        simp only [go_sem]
    · replace h := ifF (c := (decide (a0.pc ≤ p2_0))) hb13 h
      try simp only [go_sem]
      refine seq_go ?_
      try simp only [go_sem]
      replace h := Option.some.inj h
      obtain rfl := h
      simp only [go_sem]
  · replace h := ifF (c := (decide (1 ≤ a0.pc))) hb12 h
    try simp only [go_sem]
    refine seq_go ?_
    try simp only [go_sem]
    replace h := Option.some.inj h
    obtain rfl := h
    simp only [go_sem]
theorem i_validActor_j3_ok (a0 : DequeActor) (a1 : Bool) (p2_0 : Int) (r : Bool) (h : i_validActor_j3 a0 a1 p2_0 = some r) : posF Try.prog Try.f66 [1, 1, 1, 1, 1] (.bool r) ⟨[(2, .box 1000002500 0), (3, .box 1000002501 0), (5, .int .i64 p2_0)], [], [(1000002500, some [.ro (List.map i64D a0.todo), .int .i64 a0.pc, .int .i64 a0.t, .int .i64 a0.b, .int .i64 a0.x]), (1000002501, some [.bool a1])]⟩ := by
  unfold i_validActor_j3 at h
  refine posF_of rfl rfl ?_
  try simp only [go_sem]
  replace h := bindE h
  obtain ⟨v9002, hv9002, h⟩ := h
  refine call_i (i_isEnd_ok _ _ hv9002) ?_
  try simp only [go_sem]
  refine cond_i (fun hb9 => ?_) (fun hb9 => ?_)
  · replace h := ifT (c := v9002) hb9 h
    try simp only [go_sem]
    have hj := posF_to rfl rfl (i_validActor_j4_ok a0 p2_0 true _ h)
    refine seq_to hj (.one ⟨_, .done _, [], [(1000003500, 1000002500)], ?_⟩)
    clear hj
    try simp only [go_sem]
  · replace h := ifF (c := v9002) hb9 h
    try simp only [go_sem]
    refine cond_i (fun hb10 => ?_) (fun hb10 => ?_)
    · replace h := ifT (c := (decide (a0.b = (-1)))) hb10 h
      try simp only [go_sem]
      refine cond_i (fun hb11 => ?_) (fun hb11 => ?_)
      · replace h := ifT (c := a1) hb11 h
        try simp only [go_sem]
        replace h := bindE h
        obtain ⟨v9012, hv9012, h⟩ := h
        refine call_i (i_DequeActor_taking_ok _ _ hv9012) ?_
        try simp only [go_sem]
        have hj := posF_to rfl rfl (i_validActor_j4_ok a0 p2_0 v9012 _ h)
        refine seq_to hj (.one ⟨_, .done _, [], [(1000003500, 1000002500)], ?_⟩)
        clear hj
        try simp only [go_sem]
      · replace h := ifF (c := a1) hb11 h
        try simp only [go_sem]
        have hj := posF_to rfl rfl (i_validActor_j4_ok a0 p2_0 false _ h)
        refine seq_to hj (.one ⟨_, .done _, [], [(1000003500, 1000002500)], ?_⟩)
        clear hj
        try simp only [go_sem]
    · replace h := ifF (c := (decide (a0.b = (-1)))) hb10 h
      try simp only [go_sem]
      have hj := posF_to rfl rfl (i_validActor_j4_ok a0 p2_0 false _ h)
      refine seq_to hj (.one ⟨_, .done _, [], [(1000003500, 1000002500)], ?_⟩)
      clear hj
      try simp only [go_sem]
theorem i_validActor_j2_ok (a0 : DequeActor) (a1 : Bool) (p1_0 : Bool) (r : Bool) (h : i_validActor_j2 a0 a1 p1_0 = some r) : posF Try.prog Try.f66 [1, 1, 0, 1] (.bool r) ⟨[(2, .box 1000001500 0), (3, .box 1000001501 0), (25, .bool p1_0)], [], [(1000001500, some [.ro (List.map i64D a0.todo), .int .i64 a0.pc, .int .i64 a0.t, .int .i64 a0.b, .int .i64 a0.x]), (1000001501, some [.bool a1])]⟩ := by
  unfold i_validActor_j2 at h
  refine posF_of rfl rfl ?_
  try simp only [go_sem]
  refine cond_i (fun hb4 => ?_) (fun hb4 => ?_)
  · replace h := ifT (c := p1_0) hb4 h
    try simp only [go_sem]
    refine cond_i (fun hb5 => ?_) (fun hb5 => ?_)
    · replace h := ifT (c := (decide (a0.pc = 0))) hb5 h
      try simp only [go_sem]
      refine cond_i (fun hb6 => ?_) (fun hb6 => ?_)
      · replace h := ifT (c := (decide (a0.t = 0))) hb6 h
        try simp only [go_sem]
        refine cond_i (fun hb7 => ?_) (fun hb7 => ?_)
        · replace h := ifT (c := (decide (a0.b = 0))) hb7 h
          try simp only [go_sem]
          refine seq_go ?_
          try simp only [go_sem]
          replace h := Option.some.inj h
          obtain rfl := h
          simp only [go_sem]
        · replace h := ifF (c := (decide (a0.b = 0))) hb7 h
          try simp only [go_sem]
          refine seq_go ?_
          try simp only [go_sem]
          replace h := Option.some.inj h
          obtain rfl := h
          simp only [go_sem]
      · replace h := ifF (c := (decide (a0.t = 0))) hb6 h
        try simp only [go_sem]
        refine seq_go ?_
        try simp only [go_sem]
        replace h := Option.some.inj h
        obtain rfl := h
        simp only [go_sem]
    · replace h := ifF (c := (decide (a0.pc = 0))) hb5 h
      try simp only [go_sem]
      refine seq_go ?_
      try simp only [go_sem]
      replace h := Option.some.inj h
      obtain rfl := h
      simp only [go_sem]
  · replace h := ifF (c := p1_0) hb4 h
    try simp only [go_sem]
    refine seq_go ?_
    try simp only [go_sem]
    replace h := bindE h
    obtain ⟨v7002, hv7002, h⟩ := h
    refine idx_m hv7002 rfl ?_
    try simp only [go_sem]
    refine cond_i (fun hb8 => ?_) (fun hb8 => ?_)
    · replace h := ifT (c := (!decide (v7002 = 0))) hb8 h
      try simp only [go_sem]
      have hj := posF_to rfl rfl (i_validActor_j3_ok a0 a1 2 _ h)
      refine seq_to hj (.one ⟨_, .done _, [], [(1000002500, 1000001500), (1000002501, 1000001501)], ?_⟩)
      clear hj
      try simp only [go_sem]
    · replace h := ifF (c := (!decide (v7002 = 0))) hb8 h
      try simp only [go_sem]
      have hj := posF_to rfl rfl (i_validActor_j3_ok a0 a1 3 _ h)
      refine seq_to hj (.one ⟨_, .done _, [], [(1000002500, 1000001500), (1000002501, 1000001501)], ?_⟩)
      clear hj
      try simp only [go_sem]
theorem i_validActor_j1_ok (a0 : DequeActor) (a1 : Bool) (p0_0 : Bool) (r : Bool) (h : i_validActor_j1 a0 a1 p0_0 = some r) : posF Try.prog Try.f66 [1, 0, 1] (.bool r) ⟨[(2, .box 1000000500 0), (3, .box 1000000501 0), (16, .bool p0_0)], [], [(1000000500, some [.ro (List.map i64D a0.todo), .int .i64 a0.pc, .int .i64 a0.t, .int .i64 a0.b, .int .i64 a0.x]), (1000000501, some [.bool a1])]⟩ := by
  unfold i_validActor_j1 at h
  refine posF_of rfl rfl ?_
  try simp only [go_sem]
  refine cond_i (fun hb2 => ?_) (fun hb2 => ?_)
  · replace h := ifT (c := p0_0) hb2 h
    try simp only [go_sem]
    replace h := Option.some.inj h
    obtain rfl := h
    simp only [go_sem]
  · replace h := ifF (c := p0_0) hb2 h
    try simp only [go_sem]
    refine seq_go ?_
    try simp only [go_sem]
    refine cond_i (fun hb3 => ?_) (fun hb3 => ?_)
    · replace h := ifT (c := (decide (((List.length a0.todo : Nat) : Int) = 0))) hb3 h
      try simp only [go_sem]
      have hj := posF_to rfl rfl (i_validActor_j2_ok a0 a1 true _ h)
      refine seq_to hj (.one ⟨_, .done _, [], [(1000001500, 1000000500), (1000001501, 1000000501)], ?_⟩)
      clear hj
      try simp only [go_sem]
    · replace h := ifF (c := (decide (((List.length a0.todo : Nat) : Int) = 0))) hb3 h
      try simp only [go_sem]
      have hj := posF_to rfl rfl (i_validActor_j2_ok a0 a1 (decide (a0.pc = 0)) _ h)
      refine seq_to hj (.one ⟨_, .done _, [], [(1000001500, 1000000500), (1000001501, 1000000501)], ?_⟩)
      clear hj
      try simp only [go_sem]
theorem i_validActor_ok (a0 : DequeActor) (a1 : Bool) (r : Bool) (h : i_validActor a0 a1 = some r) : AC Try.prog 66 [.agg (DequeActor.avs a0), .bool a1] (.bool r) := by
  unfold i_validActor at h
  refine ac_fn mixed Try.func66 rfl rfl rfl (by kernel_rfl) (by kernel_rfl) ?_
  try simp only [go_sem]
  refine cond_i (fun hb1 => ?_) (fun hb1 => ?_)
  · replace h := ifT (c := (decide (10 < ((List.length a0.todo : Nat) : Int)))) hb1 h
    try simp only [go_sem]
    have hj := posF_to rfl rfl (i_validActor_j1_ok a0 a1 true _ h)
    refine seq_to hj (.one ⟨_, .done _, [], [(1000000500, 1000), (1000000501, 1001)], ?_⟩)
    clear hj
    try simp only [go_sem]
  · replace h := ifF (c := (decide (10 < ((List.length a0.todo : Nat) : Int)))) hb1 h
    try simp only [go_sem]
    replace h := bindE h
    obtain ⟨v2008, hv2008, h⟩ := h
    refine call_i (g_ContainsFunc_sint64_ok _ _ 96 [.rop [.bool a1] 0] (Still.of (by simp only [pureAs, pureA, Bool.and_true, Bool.true_and, Bool.and_self])) (fun y0 q hq => i_validActor_1_ok y0 _ q hq) _ hv2008) ?_
    try simp only [go_sem]
    have hj := posF_to rfl rfl (i_validActor_j1_ok a0 a1 v2008 _ h)
    refine seq_to hj (.one ⟨_, .done _, [], [(1000000500, 1000), (1000000501, 1001)], ?_⟩)
    clear hj
    try simp only [go_sem]
theorem g_IndexFunc_simpl_Handed_l1_all (n : Nat) : (∀ (a0 : List Handed) (p0_0 : Int) (f1 : (Handed → Option Bool)) (g1 : FuncId) (c1 : List AV) (s1 : Still c1) (h1 : ∀ (y0 : Handed) (q : Bool), f1 y0 = some q → AC Try.prog g1 (.agg (Handed.avs y0) :: c1) (.bool q)) (r : Int), g_IndexFunc_simpl_Handed_l1 n a0 p0_0 f1 = some r → posF Try.prog Try.f97 [1, 0, 1, 0] (.int .i64 r) ⟨[(0, .ro (List.map Handed.ds a0)), (1, .fn g1 c1), (7, .int .i64 ((List.length a0 : Nat) : Int)), (8, .int .i64 p0_0)], [], []⟩) := by
  induction n with
  | zero => exact ((fun _ _ _ _ _ _ _ _ h => by rw [g_IndexFunc_simpl_Handed_l1] at h; cases h))
  | succ n ih =>
    have ih0 := ih
    · intro a0 p0_0 f1 g1 c1 s1 h1 r h
      rw [g_IndexFunc_simpl_Handed_l1] at h
      refine posF_of rfl rfl ?_
      try simp only [go_sem, s1.k, s1.r, s1.c, s1.p]
      refine loop_i ?_
      try simp only [go_sem, s1.k, s1.r, s1.c, s1.p]
      refine cond_i (fun hb1 => ?_) (fun hb1 => ?_)
      · replace h := ifT (c := (decide (p0_0 < ((List.length a0 : Nat) : Int)))) hb1 h
        try simp only [go_sem, s1.k, s1.r, s1.c, s1.p]
        refine seq_go ?_
        try simp only [go_sem, s1.k, s1.r, s1.c, s1.p]
        replace h := bindE h
        obtain ⟨v5003, hv5003, h⟩ := h
        refine idx_m hv5003 (Handed.ds_len _) ?_
        try simp only [go_sem, s1.k, s1.r, s1.c, s1.p]
        replace h := bindE h
        obtain ⟨v5005, hv5005, h⟩ := h
        refine call_i (h1 _ _ hv5005) ?_
        try simp only [go_sem, s1.k, s1.r, s1.c, s1.p]
        refine cond_i (fun hb2 => ?_) (fun hb2 => ?_)
        · replace h := ifT (c := v5005) hb2 h
          try simp only [go_sem, s1.k, s1.r, s1.c, s1.p]
          replace h := Option.some.inj h
          obtain rfl := h
          simp only [go_sem, s1.k, s1.r, s1.c, s1.p]
        · replace h := ifF (c := v5005) hb2 h
          try simp only [go_sem, s1.k, s1.r, s1.c, s1.p]
          refine seq_go ?_
          try simp only [go_sem, s1.k, s1.r, s1.c, s1.p]
          have hj := posF_to rfl rfl (ih0 a0 (IntKind.i64.wrap (p0_0 + 1)) f1 g1 c1 s1 h1 _ h)
          refine lp_to hj (.one ⟨_, .done _, [], [], ?_⟩)
          clear hj
          try simp only [go_sem, s1.k, s1.r, s1.c, s1.p]
      · replace h := ifF (c := (decide (p0_0 < ((List.length a0 : Nat) : Int)))) hb1 h
        try simp only [go_sem, s1.k, s1.r, s1.c, s1.p]
        refine seq_go ?_
        try simp only [go_sem, s1.k, s1.r, s1.c, s1.p]
        replace h := Option.some.inj h
        obtain rfl := h
        simp only [go_sem, s1.k, s1.r, s1.c, s1.p]
theorem g_IndexFunc_simpl_Handed_l1_ok (n : Nat) : (∀ (a0 : List Handed) (p0_0 : Int) (f1 : (Handed → Option Bool)) (g1 : FuncId) (c1 : List AV) (s1 : Still c1) (h1 : ∀ (y0 : Handed) (q : Bool), f1 y0 = some q → AC Try.prog g1 (.agg (Handed.avs y0) :: c1) (.bool q)) (r : Int), g_IndexFunc_simpl_Handed_l1 n a0 p0_0 f1 = some r → posF Try.prog Try.f97 [1, 0, 1, 0] (.int .i64 r) ⟨[(0, .ro (List.map Handed.ds a0)), (1, .fn g1 c1), (7, .int .i64 ((List.length a0 : Nat) : Int)), (8, .int .i64 p0_0)], [], []⟩) := (g_IndexFunc_simpl_Handed_l1_all n)

theorem g_IndexFunc_simpl_Handed_ok (a0 : List Handed) (f1 : (Handed → Option Bool)) (g1 : FuncId) (c1 : List AV) (s1 : Still c1) (h1 : ∀ (y0 : Handed) (q : Bool), f1 y0 = some q → AC Try.prog g1 (.agg (Handed.avs y0) :: c1) (.bool q)) (r : Int) (h : g_IndexFunc_simpl_Handed a0 f1 = some r) : AC Try.prog 97 [.ro (List.map Handed.ds a0), .fn g1 c1] (.int .i64 r) := by
  unfold g_IndexFunc_simpl_Handed at h
  refine ac_fn mixed Try.func97 rfl rfl rfl (by kernel_rfl) (by kernel_rfl) ?_
  try simp only [go_sem, s1.k, s1.r, s1.c, s1.p]
  have hj := posF_to rfl rfl (g_IndexFunc_simpl_Handed_l1_ok fuel a0 0 f1 g1 c1 s1 h1 _ h)
  refine loop_to hj (.one ⟨_, .done _, [], [], ?_⟩)
  clear hj
  try simp only [go_sem, s1.k, s1.r, s1.c, s1.p]
theorem g_ContainsFunc_simpl_Handed_ok (a0 : List Handed) (f1 : (Handed → Option Bool)) (g1 : FuncId) (c1 : List AV) (s1 : Still c1) (h1 : ∀ (y0 : Handed) (q : Bool), f1 y0 = some q → AC Try.prog g1 (.agg (Handed.avs y0) :: c1) (.bool q)) (r : Bool) (h : g_ContainsFunc_simpl_Handed a0 f1 = some r) : AC Try.prog 68 [.ro (List.map Handed.ds a0), .fn g1 c1] (.bool r) := by
  unfold g_ContainsFunc_simpl_Handed at h
  refine ac_fn mixed Try.func68 rfl rfl rfl (by kernel_rfl) (by kernel_rfl) ?_
  try simp only [go_sem, s1.k, s1.r, s1.c, s1.p]
  replace h := bindE h
  obtain ⟨v2002, hv2002, h⟩ := h
  refine call_i (g_IndexFunc_simpl_Handed_ok _ _ g1 c1 s1 h1 _ hv2002) ?_
  try simp only [go_sem, s1.k, s1.r, s1.c, s1.p]
  replace h := Option.some.inj h
  obtain rfl := h
  simp only [go_sem, s1.k, s1.r, s1.c, s1.p]
theorem i_ValidDeque_2_ok (a0 : Handed) (a1 : Deque) (r : Bool) (h : i_ValidDeque_2 a0 a1 = some r) : AC Try.prog 69 [.agg (Handed.avs a0), .rop (Deque.avs a1) 0] (.bool r) := by
  unfold i_ValidDeque_2 at h
  refine ac_fn mixed Try.func69 rfl rfl rfl (by kernel_rfl) (by kernel_rfl) ?_
  try simp only [go_sem]
  refine cond_i (fun hb1 => ?_) (fun hb1 => ?_)
  · replace h := ifT (c := (decide (a0.actor < 0))) hb1 h
    try simp only [go_sem]
    refine seq_go ?_
    try simp only [go_sem]
    replace h := Option.some.inj h
    obtain rfl := h
    simp only [go_sem]
  · replace h := ifF (c := (decide (a0.actor < 0))) hb1 h
    try simp only [go_sem]
    refine cond_i (fun hb2 => ?_) (fun hb2 => ?_)
    · replace h := ifT (c := (decide (((List.length a1.actors : Nat) : Int) ≤ a0.actor))) hb2 h
      try simp only [go_sem]
      refine seq_go ?_
      try simp only [go_sem]
      replace h := Option.some.inj h
      obtain rfl := h
      simp only [go_sem]
    · replace h := ifF (c := (decide (((List.length a1.actors : Nat) : Int) ≤ a0.actor))) hb2 h
      try simp only [go_sem]
      replace h := bindE h
      obtain ⟨v2014, hv2014, h⟩ := h
      refine call_i (i_isEnd_ok _ _ hv2014) ?_
      try simp only [go_sem]
      refine seq_go ?_
      try simp only [go_sem]
      replace h := Option.some.inj h
      obtain rfl := h
      simp only [go_sem]
theorem i_ValidDeque_3_ok (a0 : Int) (r : Bool) (h : i_ValidDeque_3 a0 = some r) : AC Try.prog 70 [.int .i64 a0] (.bool r) := by
  unfold i_ValidDeque_3 at h
  refine ac_fn mixed Try.func70 rfl rfl rfl (by kernel_rfl) (by kernel_rfl) ?_
  try simp only [go_sem]
  replace h := bindE h
  obtain ⟨v2001, hv2001, h⟩ := h
  refine call_i (i_isTask_ok _ _ hv2001) ?_
  try simp only [go_sem]
  replace h := Option.some.inj h
  obtain rfl := h
  simp only [go_sem]
theorem i_ValidDeque_j6_ok (a0 : Deque) (p5_0 : Bool) (r : Bool) (h : i_ValidDeque_j6 a0 p5_0 = some r) : posF Try.prog Try.f33 [1, 1, 1, 1, 1, 1, 0, 1] (.bool r) ⟨[(1, .box 1000005500 0), (97, .bool p5_0)], [], [(1000005500, some [.int .i64 a0.top, .int .i64 a0.bottom, .ro (List.map i64D a0.buffer), .ro (List.map DequeActor.ds a0.actors), .ro (List.map Handed.ds a0.taken), .ro (List.map i64D a0.refused)])]⟩ := by
  unfold i_ValidDeque_j6 at h
  refine posF_of rfl rfl ?_
  try simp only [go_sem]
  refine cond_i (fun hb16 => ?_) (fun hb16 => ?_)
  · replace h := ifT (c := p5_0) hb16 h
    try simp only [go_sem]
    replace h := Option.some.inj h
    obtain rfl := h
    simp only [go_sem]
  · replace h := ifF (c := p5_0) hb16 h
    try simp only [go_sem]
    refine seq_go ?_
    try simp only [go_sem]
    replace h := bindE h
    obtain ⟨v17003, hv17003, h⟩ := h
    refine call_i (g_ContainsFunc_simpl_Handed_ok _ _ 69 [.rop [.int .i64 a0.top, .int .i64 a0.bottom, .ro (List.map i64D a0.buffer), .ro (List.map DequeActor.ds a0.actors), .ro (List.map Handed.ds a0.taken), .ro (List.map i64D a0.refused)] 0] (Still.of (by simp only [pureAs, pureA, Bool.and_true, Bool.true_and, Bool.and_self])) (fun y0 q hq => i_ValidDeque_2_ok y0 _ q hq) _ hv17003) ?_
    try simp only [go_sem]
    refine cond_i (fun hb17 => ?_) (fun hb17 => ?_)
    · replace h := ifT (c := (!v17003)) hb17 h
      try simp only [go_sem]
      replace h := bindE h
      obtain ⟨v17008, hv17008, h⟩ := h
      refine call_i (g_ContainsFunc_sint64_ok _ _ 70 [] (Still.of rfl) (fun y0 q hq => i_ValidDeque_3_ok y0  q hq) _ hv17008) ?_
      try simp only [go_sem]
      refine seq_go ?_
      try simp only [go_sem]
      replace h := Option.some.inj h
      obtain rfl := h
      simp only [go_sem]
    · replace h := ifF (c := (!v17003)) hb17 h
      try simp only [go_sem]
      refine seq_go ?_
      try simp only [go_sem]
      replace h := Option.some.inj h
      obtain rfl := h
      simp only [go_sem]
theorem i_ValidDeque_j5_ok (a0 : Deque) (p4_0 : Bool) (r : Bool) (h : i_ValidDeque_j5 a0 p4_0 = some r) : posF Try.prog Try.f33 [1, 1, 1, 1, 1, 0, 1] (.bool r) ⟨[(1, .box 1000004500 0), (87, .bool p4_0)], [], [(1000004500, some [.int .i64 a0.top, .int .i64 a0.bottom, .ro (List.map i64D a0.buffer), .ro (List.map DequeActor.ds a0.actors), .ro (List.map Handed.ds a0.taken), .ro (List.map i64D a0.refused)])]⟩ := by
  unfold i_ValidDeque_j5 at h
  refine posF_of rfl rfl ?_
  try simp only [go_sem]
  refine cond_i (fun hb14 => ?_) (fun hb14 => ?_)
  · replace h := ifT (c := p4_0) hb14 h
    try simp only [go_sem]
    replace h := Option.some.inj h
    obtain rfl := h
    simp only [go_sem]
  · replace h := ifF (c := p4_0) hb14 h
    try simp only [go_sem]
    refine seq_go ?_
    try simp only [go_sem]
    refine cond_i (fun hb15 => ?_) (fun hb15 => ?_)
    · replace h := ifT (c := (decide (1000 < ((List.length a0.taken : Nat) : Int)))) hb15 h
      try simp only [go_sem]
      have hj := posF_to rfl rfl (i_ValidDeque_j6_ok a0 true _ h)
      refine seq_to hj (.one ⟨_, .done _, [], [(1000005500, 1000004500)], ?_⟩)
      clear hj
      try simp only [go_sem]
    · replace h := ifF (c := (decide (1000 < ((List.length a0.taken : Nat) : Int)))) hb15 h
      try simp only [go_sem]
      have hj := posF_to rfl rfl (i_ValidDeque_j6_ok a0 (decide (1000 < ((List.length a0.refused : Nat) : Int))) _ h)
      refine seq_to hj (.one ⟨_, .done _, [], [(1000005500, 1000004500)], ?_⟩)
      clear hj
      try simp only [go_sem]
theorem i_ValidDeque_l4_all (n : Nat) : (∀ (a0 : Deque) (p3_0 : Int) (r : Bool), i_ValidDeque_l4 n a0 p3_0 = some r → posF Try.prog Try.f33 [1, 1, 1, 0, 1, 0] (.bool r) ⟨[(1, .box 1000003500 0), (49, .ro (List.map DequeActor.ds a0.actors)), (50, .int .i64 ((List.length a0.actors : Nat) : Int)), (51, .int .i64 p3_0)], [], [(1000003500, some [.int .i64 a0.top, .int .i64 a0.bottom, .ro (List.map i64D a0.buffer), .ro (List.map DequeActor.ds a0.actors), .ro (List.map Handed.ds a0.taken), .ro (List.map i64D a0.refused)])]⟩) := by
  induction n with
  | zero => exact ((fun _ _ _ h => by rw [i_ValidDeque_l4] at h; cases h))
  | succ n ih =>
    have ih0 := ih
    · intro a0 p3_0 r h
      rw [i_ValidDeque_l4] at h
      refine posF_of rfl rfl ?_
      try simp only [go_sem]
      refine loop_i ?_
      try simp only [go_sem]
      refine cond_i (fun hb9 => ?_) (fun hb9 => ?_)
      · replace h := ifT (c := (decide (p3_0 < ((List.length a0.actors : Nat) : Int)))) hb9 h
        try simp only [go_sem]
        refine seq_go ?_
        try simp only [go_sem]
        replace h := bindE h
        obtain ⟨v8001, hv8001, h⟩ := h
        refine idx_m hv8001 (DequeActor.ds_len _) ?_
        try simp only [go_sem]
        replace h := bindE h
        obtain ⟨v9003, hv9003, h⟩ := h
        refine call_i (i_validActor_ok _ _ _ hv9003) ?_
        try simp only [go_sem]
        refine cond_i (fun hb10 => ?_) (fun hb10 => ?_)
        · replace h := ifT (c := (!v9003)) hb10 h
          try simp only [go_sem]
          replace h := Option.some.inj h
          obtain rfl := h
          simp only [go_sem]
        · replace h := ifF (c := (!v9003)) hb10 h
          try simp only [go_sem]
          refine seq_go ?_
          try simp only [go_sem]
          have hj := posF_to rfl rfl (ih0 a0 (IntKind.i64.wrap (p3_0 + 1)) _ h)
          refine lp_to hj (.one ⟨_, .done _, [], [(1000003500, 1000003500)], ?_⟩)
          clear hj
          try simp only [go_sem]
      · replace h := ifF (c := (decide (p3_0 < ((List.length a0.actors : Nat) : Int)))) hb9 h
        try simp only [go_sem]
        refine seq_go ?_
        try simp only [go_sem]
        refine cond_i (fun hb11 => ?_) (fun hb11 => ?_)
        · replace h := ifT (c := (decide (((List.length a0.buffer : Nat) : Int) < (IntKind.i64.wrap (a0.bottom - a0.top))))) hb11 h
          try simp only [go_sem]
          have hj := posF_to rfl rfl (i_ValidDeque_j5_ok a0 true _ h)
          refine seq_to hj (.one ⟨_, .done _, [], [(1000004500, 1000003500)], ?_⟩)
          clear hj
          try simp only [go_sem]
        · replace h := ifF (c := (decide (((List.length a0.buffer : Nat) : Int) < (IntKind.i64.wrap (a0.bottom - a0.top))))) hb11 h
          try simp only [go_sem]
          refine cond_i (fun hb12 => ?_) (fun hb12 => ?_)
          · replace h := ifT (c := (decide ((IntKind.i64.wrap (a0.bottom - a0.top)) < (-1)))) hb12 h
            try simp only [go_sem]
            have hj := posF_to rfl rfl (i_ValidDeque_j5_ok a0 true _ h)
            refine seq_to hj (.one ⟨_, .done _, [], [(1000004500, 1000003500)], ?_⟩)
            clear hj
            try simp only [go_sem]
          · replace h := ifF (c := (decide ((IntKind.i64.wrap (a0.bottom - a0.top)) < (-1)))) hb12 h
            try simp only [go_sem]
            refine cond_i (fun hb13 => ?_) (fun hb13 => ?_)
            · replace h := ifT (c := (decide ((IntKind.i64.wrap (a0.bottom - a0.top)) = (-1)))) hb13 h
              try simp only [go_sem]
              replace h := bindE h
              obtain ⟨v13015, hv13015, h⟩ := h
              refine idx_m hv13015 (DequeActor.ds_len _) ?_
              try simp only [go_sem]
              replace h := bindE h
              obtain ⟨v13017, hv13017, h⟩ := h
              refine call_i (i_DequeActor_taking_ok _ _ hv13017) ?_
              try simp only [go_sem]
              have hj := posF_to rfl rfl (i_ValidDeque_j5_ok a0 (!v13017) _ h)
              refine seq_to hj (.one ⟨_, .done _, [], [(1000004500, 1000003500)], ?_⟩)
              clear hj
              try simp only [go_sem]
            · replace h := ifF (c := (decide ((IntKind.i64.wrap (a0.bottom - a0.top)) = (-1)))) hb13 h
              try simp only [go_sem]
              have hj := posF_to rfl rfl (i_ValidDeque_j5_ok a0 false _ h)
              refine seq_to hj (.one ⟨_, .done _, [], [(1000004500, 1000003500)], ?_⟩)
              clear hj
              try simp only [go_sem]
theorem i_ValidDeque_l4_ok (n : Nat) : (∀ (a0 : Deque) (p3_0 : Int) (r : Bool), i_ValidDeque_l4 n a0 p3_0 = some r → posF Try.prog Try.f33 [1, 1, 1, 0, 1, 0] (.bool r) ⟨[(1, .box 1000003500 0), (49, .ro (List.map DequeActor.ds a0.actors)), (50, .int .i64 ((List.length a0.actors : Nat) : Int)), (51, .int .i64 p3_0)], [], [(1000003500, some [.int .i64 a0.top, .int .i64 a0.bottom, .ro (List.map i64D a0.buffer), .ro (List.map DequeActor.ds a0.actors), .ro (List.map Handed.ds a0.taken), .ro (List.map i64D a0.refused)])]⟩) := (i_ValidDeque_l4_all n)

theorem i_ValidDeque_j2_ok (a0 : Deque) (p1_0 : Bool) (r : Bool) (h : i_ValidDeque_j2 a0 p1_0 = some r) : posF Try.prog Try.f33 [1, 1, 0, 1] (.bool r) ⟨[(1, .box 1000001500 0), (47, .bool p1_0)], [], [(1000001500, some [.int .i64 a0.top, .int .i64 a0.bottom, .ro (List.map i64D a0.buffer), .ro (List.map DequeActor.ds a0.actors), .ro (List.map Handed.ds a0.taken), .ro (List.map i64D a0.refused)])]⟩ := by
  unfold i_ValidDeque_j2 at h
  refine posF_of rfl rfl ?_
  try simp only [go_sem]
  refine cond_i (fun hb8 => ?_) (fun hb8 => ?_)
  · replace h := ifT (c := p1_0) hb8 h
    try simp only [go_sem]
    replace h := Option.some.inj h
    obtain rfl := h
    simp only [go_sem]
  · replace h := ifF (c := p1_0) hb8 h
    try simp only [go_sem]
    refine seq_go ?_
    try simp only [go_sem]
    have hj := posF_to rfl rfl (i_ValidDeque_l4_ok fuel a0 0 _ h)
    refine loop_to hj (.one ⟨_, .done _, [], [(1000003500, 1000001500)], ?_⟩)
    clear hj
    try simp only [go_sem]
theorem i_ValidDeque_j1_ok (a0 : Deque) (p0_0 : Bool) (r : Bool) (h : i_ValidDeque_j1 a0 p0_0 = some r) : posF Try.prog Try.f33 [1, 0, 1] (.bool r) ⟨[(1, .box 1000000500 0), (20, .bool p0_0)], [], [(1000000500, some [.int .i64 a0.top, .int .i64 a0.bottom, .ro (List.map i64D a0.buffer), .ro (List.map DequeActor.ds a0.actors), .ro (List.map Handed.ds a0.taken), .ro (List.map i64D a0.refused)])]⟩ := by
  unfold i_ValidDeque_j1 at h
  refine posF_of rfl rfl ?_
  try simp only [go_sem]
  refine cond_i (fun hb3 => ?_) (fun hb3 => ?_)
  · replace h := ifT (c := p0_0) hb3 h
    try simp only [go_sem]
    replace h := Option.some.inj h
    obtain rfl := h
    simp only [go_sem]
  · replace h := ifF (c := p0_0) hb3 h
    try simp only [go_sem]
    refine seq_go ?_
    try simp only [go_sem]
    refine cond_i (fun hb4 => ?_) (fun hb4 => ?_)
    · replace h := ifT (c := (decide (((List.length a0.actors : Nat) : Int) < 1))) hb4 h
      try simp only [go_sem]
      have hj := posF_to rfl rfl (i_ValidDeque_j2_ok a0 true _ h)
      refine seq_to hj (.one ⟨_, .done _, [], [(1000001500, 1000000500)], ?_⟩)
      clear hj
      try simp only [go_sem]
    · replace h := ifF (c := (decide (((List.length a0.actors : Nat) : Int) < 1))) hb4 h
      try simp only [go_sem]
      refine cond_i (fun hb5 => ?_) (fun hb5 => ?_)
      · replace h := ifT (c := (decide (4 < ((List.length a0.actors : Nat) : Int)))) hb5 h
        try simp only [go_sem]
        have hj := posF_to rfl rfl (i_ValidDeque_j2_ok a0 true _ h)
        refine seq_to hj (.one ⟨_, .done _, [], [(1000001500, 1000000500)], ?_⟩)
        clear hj
        try simp only [go_sem]
      · replace h := ifF (c := (decide (4 < ((List.length a0.actors : Nat) : Int)))) hb5 h
        try simp only [go_sem]
        replace h := bindE h
        obtain ⟨v4013, hv4013, h⟩ := h
        refine call_i (i_isEnd_ok _ _ hv4013) ?_
        try simp only [go_sem]
        refine cond_i (fun hb6 => ?_) (fun hb6 => ?_)
        · replace h := ifT (c := (!v4013)) hb6 h
          try simp only [go_sem]
          have hj := posF_to rfl rfl (i_ValidDeque_j2_ok a0 true _ h)
          refine seq_to hj (.one ⟨_, .done _, [], [(1000001500, 1000000500)], ?_⟩)
          clear hj
          try simp only [go_sem]
        · replace h := ifF (c := (!v4013)) hb6 h
          try simp only [go_sem]
          refine cond_i (fun hb7 => ?_) (fun hb7 => ?_)
          · replace h := ifT (c := (!decide (a0.bottom = (-1)))) hb7 h
            try simp only [go_sem]
            replace h := bindE h
            obtain ⟨v4023, hv4023, h⟩ := h
            refine call_i (i_isEnd_ok _ _ hv4023) ?_
            try simp only [go_sem]
            have hj := posF_to rfl rfl (i_ValidDeque_j2_ok a0 (!v4023) _ h)
            refine seq_to hj (.one ⟨_, .done _, [], [(1000001500, 1000000500)], ?_⟩)
            clear hj
            try simp only [go_sem]
          · replace h := ifF (c := (!decide (a0.bottom = (-1)))) hb7 h
            try simp only [go_sem]
            have hj := posF_to rfl rfl (i_ValidDeque_j2_ok a0 false _ h)
            refine seq_to hj (.one ⟨_, .done _, [], [(1000001500, 1000000500)], ?_⟩)
            clear hj
            try simp only [go_sem]
theorem i_ValidDeque_ok (a0 : Deque) (r : Bool) (h : i_ValidDeque a0 = some r) : AC Try.prog 33 [.agg (Deque.avs a0)] (.bool r) := by
  unfold i_ValidDeque at h
  refine ac_fn mixed Try.func33 rfl rfl rfl (by kernel_rfl) (by kernel_rfl) ?_
  try simp only [go_sem]
  refine cond_i (fun hb1 => ?_) (fun hb1 => ?_)
  · replace h := ifT (c := (decide (((List.length a0.buffer : Nat) : Int) < 1))) hb1 h
    try simp only [go_sem]
    have hj := posF_to rfl rfl (i_ValidDeque_j1_ok a0 true _ h)
    refine seq_to hj (.one ⟨_, .done _, [], [(1000000500, 1000)], ?_⟩)
    clear hj
    try simp only [go_sem]
  · replace h := ifF (c := (decide (((List.length a0.buffer : Nat) : Int) < 1))) hb1 h
    try simp only [go_sem]
    refine cond_i (fun hb2 => ?_) (fun hb2 => ?_)
    · replace h := ifT (c := (decide (8 < ((List.length a0.buffer : Nat) : Int)))) hb2 h
      try simp only [go_sem]
      have hj := posF_to rfl rfl (i_ValidDeque_j1_ok a0 true _ h)
      refine seq_to hj (.one ⟨_, .done _, [], [(1000000500, 1000)], ?_⟩)
      clear hj
      try simp only [go_sem]
    · replace h := ifF (c := (decide (8 < ((List.length a0.buffer : Nat) : Int)))) hb2 h
      try simp only [go_sem]
      replace h := bindE h
      obtain ⟨v2013, hv2013, h⟩ := h
      refine call_i (g_ContainsFunc_sint64_ok _ _ 63 [] (Still.of rfl) (fun y0 q hq => i_ValidDeque_1_ok y0  q hq) _ hv2013) ?_
      try simp only [go_sem]
      have hj := posF_to rfl rfl (i_ValidDeque_j1_ok a0 v2013 _ h)
      refine seq_to hj (.one ⟨_, .done _, [], [(1000000500, 1000)], ?_⟩)
      clear hj
      try simp only [go_sem]
theorem i_Deque_place_ok (a0 : Deque) (a1 : Int) (r : Int) (h : i_Deque_place a0 a1 = some r) : AG Try.prog 71 [.rop [.int .i64 a0.top, .int .i64 a0.bottom, .ro (List.map i64D a0.buffer), .ro (List.map DequeActor.ds a0.actors), .ro (List.map Handed.ds a0.taken), .ro (List.map i64D a0.refused)] 0, .int .i64 a1] [] [] (.rop [.int .i64 r] 0) [] [] := by
  unfold i_Deque_place at h
  refine ag_fn mixed Try.func71 rfl rfl rfl (by kernel_rfl) (by kernel_rfl) ?_
  try simp only [go_sem]
  refine draw_i [] .fin (by kernel_rfl) ?_
  try simp only [go_sem]
  replace h := bindE h
  obtain ⟨v3006, hv3006, h⟩ := h
  refine and_i (nz_some hv3006) ?_
  try simp only [go_sem]
  replace h := bindE h
  obtain ⟨v3010, hv3010, h⟩ := h
  refine and_i (nz_some hv3010) ?_
  try simp only [go_sem]
  replace h := bindE h
  obtain ⟨v3011, hv3011, h⟩ := h
  refine idx_m hv3011 rfl ?_
  try simp only [go_sem]
  refine seq_go ?_
  try simp only [go_sem]
  replace h := Option.some.inj h
  obtain rfl := h
  refine ret_i (.done _) [] [] ?_
  simp only [go_sem]
theorem i_Deque_tasksLeft_l1_all (n : Nat) : (∀ (a0 : Deque) (p0_0 : List Int) (p0_1 : Int) (r : (List Int)), i_Deque_tasksLeft_l1 n a0 p0_0 p0_1 = some r → posF Try.prog Try.f34 [1, 1, 0, 1, 0] (.ow (some 1) (List.map i64D r)) ⟨[(0, .rop [.int .i64 a0.top, .int .i64 a0.bottom, .ro (List.map i64D a0.buffer), .ro (List.map DequeActor.ds a0.actors), .ro (List.map Handed.ds a0.taken), .ro (List.map i64D a0.refused)] 0), (3, .own 1000000000), (4, .int .i64 p0_1)], [(1000000000, some ⟨List.map i64D p0_0, some 1, 0⟩)], []⟩) := by
  induction n with
  | zero => exact ((fun _ _ _ _ h => by rw [i_Deque_tasksLeft_l1] at h; cases h))
  | succ n ih =>
    have ih0 := ih
    · intro a0 p0_0 p0_1 r h
      rw [i_Deque_tasksLeft_l1] at h
      refine posF_of rfl rfl ?_
      try simp only [go_sem]
      refine loop_i ?_
      try simp only [go_sem]
      refine cond_i (fun hb1 => ?_) (fun hb1 => ?_)
      · replace h := ifT (c := (decide (p0_1 < a0.bottom))) hb1 h
        try simp only [go_sem]
        refine seq_go ?_
        try simp only [go_sem]
        replace h := bindE h
        obtain ⟨v6003, hv6003, h⟩ := h
        refine call_g ⟨[], [], [], [], [], true⟩ (by kernel_rfl) (i_Deque_place_ok _ _ _ hv6003) (by kernel_rfl) ?_
        try simp only [go_sem]
        replace h := bindE h
        obtain ⟨v6007, hv6007, h⟩ := h
        have hq_ := app_some hv6007
        obtain ⟨hv6007a, hv6007b⟩ := hq_
        refine and_i (by refine ⟨?_, ?_⟩ <;> (try simp only [List.length_map, List.length_append, List.length_cons, List.length_nil] at *) <;> (try unfold maxLen) <;> omega) ?_
        try simp only [go_sem]
        refine row_i (List.map i64D v6007) (by rw [← hv6007b]; simp only [List.map_append, List.map_cons, List.map_nil, List.nil_append, List.append_nil, go_sem, slD]) ?_
        try simp only [go_sem]
        refine seq_go ?_
        try simp only [go_sem]
        have hj := posF_to rfl rfl (ih0 a0 v6007 (IntKind.i64.wrap (p0_1 + 1)) _ h)
        refine lp_to hj (.one ⟨_, .done _, [(1000000000, 96112)], [], ?_⟩)
        clear hj
        try simp only [go_sem]
      · replace h := ifF (c := (decide (p0_1 < a0.bottom))) hb1 h
        try simp only [go_sem]
        refine seq_go ?_
        try simp only [go_sem]
        replace h := Option.some.inj h
        obtain rfl := h
        simp only [go_sem]
theorem i_Deque_tasksLeft_l1_ok (n : Nat) : (∀ (a0 : Deque) (p0_0 : List Int) (p0_1 : Int) (r : (List Int)), i_Deque_tasksLeft_l1 n a0 p0_0 p0_1 = some r → posF Try.prog Try.f34 [1, 1, 0, 1, 0] (.ow (some 1) (List.map i64D r)) ⟨[(0, .rop [.int .i64 a0.top, .int .i64 a0.bottom, .ro (List.map i64D a0.buffer), .ro (List.map DequeActor.ds a0.actors), .ro (List.map Handed.ds a0.taken), .ro (List.map i64D a0.refused)] 0), (3, .own 1000000000), (4, .int .i64 p0_1)], [(1000000000, some ⟨List.map i64D p0_0, some 1, 0⟩)], []⟩) := (i_Deque_tasksLeft_l1_all n)

theorem i_Deque_tasksLeft_ok (a0 : Deque) (r : (List Int)) (h : i_Deque_tasksLeft a0 = some r) : AC Try.prog 34 [.rop (Deque.avs a0) 0] (.ow (some 1) (List.map i64D r)) := by
  unfold i_Deque_tasksLeft at h
  refine ac_fn mixed Try.func34 rfl rfl rfl (by kernel_rfl) (by kernel_rfl) ?_
  try simp only [go_sem]
  have hj := posF_to rfl rfl (i_Deque_tasksLeft_l1_ok fuel a0 [] a0.top _ h)
  refine loop_to hj (.one ⟨_, .slot 3 2000000000 (some 1) (by simp only [go_sem]) (by simp only [go_sem]) (.done _), [(1000000000, 2000000000)], [], ?_⟩)
  clear hj
  simp only [go_sem]
  all_goals try rfl
theorem i_TasksLeft_ok (a0 : Deque) (r : (List Int) × Int) (h : i_TasksLeft a0 = some r) : AC Try.prog 9 [.agg (Deque.avs a0)] (.tup [.ow (some 1) (List.map i64D r.1), .int .i64 r.2]) := by
  unfold i_TasksLeft at h
  refine ac_fn mixed Try.func9 rfl rfl rfl (by kernel_rfl) (by kernel_rfl) ?_
  try simp only [go_sem]
  replace h := bindE h
  obtain ⟨v2001, hv2001, h⟩ := h
  refine call_i (i_ValidDeque_ok _ _ hv2001) ?_
  try simp only [go_sem]
  refine cond_i (fun hb1 => ?_) (fun hb1 => ?_)
  · replace h := ifT (c := (!v2001)) hb1 h
    try simp only [go_sem]
    replace h := Option.some.inj h
    obtain rfl := h
    simp only [go_sem]
  · replace h := ifF (c := (!v2001)) hb1 h
    try simp only [go_sem]
    refine seq_go ?_
    try simp only [go_sem]
    replace h := bindE h
    obtain ⟨v4000, hv4000, h⟩ := h
    refine call_i (i_Deque_tasksLeft_ok _ _ hv4000) ?_
    try simp only [go_sem]
    replace h := Option.some.inj h
    obtain rfl := h
    simp only [go_sem]
theorem l_eqDequeActor_ok (a0 : DequeActor) (a1 : DequeActor) (r : Bool) (h : l_eqDequeActor a0 a1 = some r) : AC Try.prog 72 [.agg (DequeActor.avs a0), .agg (DequeActor.avs a1)] (.bool r) := by
  unfold l_eqDequeActor at h
  refine ac_fn mixed Try.func72 rfl rfl rfl (by kernel_rfl) (by kernel_rfl) ?_
  try simp only [go_sem]
  replace h := bindE h
  obtain ⟨v2004, hv2004, h⟩ := h
  refine call_i (l_eqInt64S_ok _ _ _ hv2004) ?_
  try simp only [go_sem]
  refine cond_i (fun hb1 => ?_) (fun hb1 => ?_)
  · replace h := ifT (c := (!v2004)) hb1 h
    try simp only [go_sem]
    replace h := Option.some.inj h
    obtain rfl := h
    simp only [go_sem]
  · replace h := ifF (c := (!v2004)) hb1 h
    try simp only [go_sem]
    refine seq_go ?_
    try simp only [go_sem]
    refine cond_i (fun hb2 => ?_) (fun hb2 => ?_)
    · replace h := ifT (c := (!decide (a0.pc = a1.pc))) hb2 h
      try simp only [go_sem]
      replace h := Option.some.inj h
      obtain rfl := h
      simp only [go_sem]
    · replace h := ifF (c := (!decide (a0.pc = a1.pc))) hb2 h
      try simp only [go_sem]
      refine seq_go ?_
      try simp only [go_sem]
      refine cond_i (fun hb3 => ?_) (fun hb3 => ?_)
      · replace h := ifT (c := (!decide (a0.t = a1.t))) hb3 h
        try simp only [go_sem]
        replace h := Option.some.inj h
        obtain rfl := h
        simp only [go_sem]
      · replace h := ifF (c := (!decide (a0.t = a1.t))) hb3 h
        try simp only [go_sem]
        refine seq_go ?_
        try simp only [go_sem]
        refine cond_i (fun hb4 => ?_) (fun hb4 => ?_)
        · replace h := ifT (c := (!decide (a0.b = a1.b))) hb4 h
          try simp only [go_sem]
          replace h := Option.some.inj h
          obtain rfl := h
          simp only [go_sem]
        · replace h := ifF (c := (!decide (a0.b = a1.b))) hb4 h
          try simp only [go_sem]
          refine seq_go ?_
          try simp only [go_sem]
          refine cond_i (fun hb5 => ?_) (fun hb5 => ?_)
          · replace h := ifT (c := (!decide (a0.x = a1.x))) hb5 h
            try simp only [go_sem]
            replace h := Option.some.inj h
            obtain rfl := h
            simp only [go_sem]
          · replace h := ifF (c := (!decide (a0.x = a1.x))) hb5 h
            try simp only [go_sem]
            refine seq_go ?_
            try simp only [go_sem]
            replace h := Option.some.inj h
            obtain rfl := h
            simp only [go_sem]
theorem l_eqDequeActorS_l1_all (n : Nat) : (∀ (a0 : List DequeActor) (a1 : List DequeActor) (p0_0 : Int) (r : Bool), l_eqDequeActorS_l1 n a0 a1 p0_0 = some r → posF Try.prog Try.f35 [1, 1, 0, 1, 0] (.bool r) ⟨[(0, .ro (List.map DequeActor.ds a0)), (1, .ro (List.map DequeActor.ds a1)), (5, .int .i64 p0_0)], [], []⟩) := by
  induction n with
  | zero => exact ((fun _ _ _ _ h => by rw [l_eqDequeActorS_l1] at h; cases h))
  | succ n ih =>
    have ih0 := ih
    · intro a0 a1 p0_0 r h
      rw [l_eqDequeActorS_l1] at h
      refine posF_of rfl rfl ?_
      try simp only [go_sem]
      refine loop_i ?_
      try simp only [go_sem]
      refine cond_i (fun hb2 => ?_) (fun hb2 => ?_)
      · replace h := ifT (c := (decide (p0_0 < ((List.length a0 : Nat) : Int)))) hb2 h
        try simp only [go_sem]
        refine seq_go ?_
        try simp only [go_sem]
        refine draw_i [] .fin (by kernel_rfl) ?_
        try simp only [go_sem]
        replace h := bindE h
        obtain ⟨v7002, hv7002, h⟩ := h
        refine idx_m hv7002 (DequeActor.ds_len _) ?_
        try simp only [go_sem]
        replace h := bindE h
        obtain ⟨v7006, hv7006, h⟩ := h
        refine idx_m hv7006 (DequeActor.ds_len _) ?_
        try simp only [go_sem]
        replace h := bindE h
        obtain ⟨v7008, hv7008, h⟩ := h
        refine call_i (l_eqDequeActor_ok _ _ _ hv7008) ?_
        try simp only [go_sem]
        refine seq_go ?_
        try simp only [go_sem]
        refine cond_i (fun hb3 => ?_) (fun hb3 => ?_)
        · replace h := ifT (c := (!v7008)) hb3 h
          try simp only [go_sem]
          replace h := Option.some.inj h
          obtain rfl := h
          simp only [go_sem]
        · replace h := ifF (c := (!v7008)) hb3 h
          try simp only [go_sem]
          refine seq_go ?_
          try simp only [go_sem]
          have hj := posF_to rfl rfl (ih0 a0 a1 (IntKind.i64.wrap (p0_0 + 1)) _ h)
          refine lp_to hj (.one ⟨_, .done _, [], [], ?_⟩)
          clear hj
          try simp only [go_sem]
      · replace h := ifF (c := (decide (p0_0 < ((List.length a0 : Nat) : Int)))) hb2 h
        try simp only [go_sem]
        refine seq_go ?_
        try simp only [go_sem]
        replace h := Option.some.inj h
        obtain rfl := h
        simp only [go_sem]
theorem l_eqDequeActorS_l1_ok (n : Nat) : (∀ (a0 : List DequeActor) (a1 : List DequeActor) (p0_0 : Int) (r : Bool), l_eqDequeActorS_l1 n a0 a1 p0_0 = some r → posF Try.prog Try.f35 [1, 1, 0, 1, 0] (.bool r) ⟨[(0, .ro (List.map DequeActor.ds a0)), (1, .ro (List.map DequeActor.ds a1)), (5, .int .i64 p0_0)], [], []⟩) := (l_eqDequeActorS_l1_all n)

theorem l_eqDequeActorS_ok (a0 : List DequeActor) (a1 : List DequeActor) (r : Bool) (h : l_eqDequeActorS a0 a1 = some r) : AC Try.prog 35 [.ro (List.map DequeActor.ds a0), .ro (List.map DequeActor.ds a1)] (.bool r) := by
  unfold l_eqDequeActorS at h
  refine ac_fn mixed Try.func35 rfl rfl rfl (by kernel_rfl) (by kernel_rfl) ?_
  try simp only [go_sem]
  refine cond_i (fun hb1 => ?_) (fun hb1 => ?_)
  · replace h := ifT (c := (!decide (((List.length a0 : Nat) : Int) = ((List.length a1 : Nat) : Int)))) hb1 h
    try simp only [go_sem]
    replace h := Option.some.inj h
    obtain rfl := h
    simp only [go_sem]
  · replace h := ifF (c := (!decide (((List.length a0 : Nat) : Int) = ((List.length a1 : Nat) : Int)))) hb1 h
    try simp only [go_sem]
    refine seq_go ?_
    try simp only [go_sem]
    have hj := posF_to rfl rfl (l_eqDequeActorS_l1_ok fuel a0 a1 0 _ h)
    refine loop_to hj (.one ⟨_, .done _, [], [], ?_⟩)
    clear hj
    try simp only [go_sem]
theorem l_eqHanded_ok (a0 : Handed) (a1 : Handed) (r : Bool) (h : l_eqHanded a0 a1 = some r) : AC Try.prog 73 [.agg (Handed.avs a0), .agg (Handed.avs a1)] (.bool r) := by
  unfold l_eqHanded at h
  refine ac_fn mixed Try.func73 rfl rfl rfl (by kernel_rfl) (by kernel_rfl) ?_
  try simp only [go_sem]
  refine cond_i (fun hb1 => ?_) (fun hb1 => ?_)
  · replace h := ifT (c := (!decide (a0.actor = a1.actor))) hb1 h
    try simp only [go_sem]
    replace h := Option.some.inj h
    obtain rfl := h
    simp only [go_sem]
  · replace h := ifF (c := (!decide (a0.actor = a1.actor))) hb1 h
    try simp only [go_sem]
    refine seq_go ?_
    try simp only [go_sem]
    refine cond_i (fun hb2 => ?_) (fun hb2 => ?_)
    · replace h := ifT (c := (!decide (a0.value = a1.value))) hb2 h
      try simp only [go_sem]
      replace h := Option.some.inj h
      obtain rfl := h
      simp only [go_sem]
    · replace h := ifF (c := (!decide (a0.value = a1.value))) hb2 h
      try simp only [go_sem]
      refine seq_go ?_
      try simp only [go_sem]
      replace h := Option.some.inj h
      obtain rfl := h
      simp only [go_sem]
theorem l_eqHandedS_l1_all (n : Nat) : (∀ (a0 : List Handed) (a1 : List Handed) (p0_0 : Int) (r : Bool), l_eqHandedS_l1 n a0 a1 p0_0 = some r → posF Try.prog Try.f36 [1, 1, 0, 1, 0] (.bool r) ⟨[(0, .ro (List.map Handed.ds a0)), (1, .ro (List.map Handed.ds a1)), (5, .int .i64 p0_0)], [], []⟩) := by
  induction n with
  | zero => exact ((fun _ _ _ _ h => by rw [l_eqHandedS_l1] at h; cases h))
  | succ n ih =>
    have ih0 := ih
    · intro a0 a1 p0_0 r h
      rw [l_eqHandedS_l1] at h
      refine posF_of rfl rfl ?_
      try simp only [go_sem]
      refine loop_i ?_
      try simp only [go_sem]
      refine cond_i (fun hb2 => ?_) (fun hb2 => ?_)
      · replace h := ifT (c := (decide (p0_0 < ((List.length a0 : Nat) : Int)))) hb2 h
        try simp only [go_sem]
        refine seq_go ?_
        try simp only [go_sem]
        refine draw_i [] .fin (by kernel_rfl) ?_
        try simp only [go_sem]
        replace h := bindE h
        obtain ⟨v7002, hv7002, h⟩ := h
        refine idx_m hv7002 (Handed.ds_len _) ?_
        try simp only [go_sem]
        replace h := bindE h
        obtain ⟨v7006, hv7006, h⟩ := h
        refine idx_m hv7006 (Handed.ds_len _) ?_
        try simp only [go_sem]
        replace h := bindE h
        obtain ⟨v7008, hv7008, h⟩ := h
        refine call_i (l_eqHanded_ok _ _ _ hv7008) ?_
        try simp only [go_sem]
        refine seq_go ?_
        try simp only [go_sem]
        refine cond_i (fun hb3 => ?_) (fun hb3 => ?_)
        · replace h := ifT (c := (!v7008)) hb3 h
          try simp only [go_sem]
          replace h := Option.some.inj h
          obtain rfl := h
          simp only [go_sem]
        · replace h := ifF (c := (!v7008)) hb3 h
          try simp only [go_sem]
          refine seq_go ?_
          try simp only [go_sem]
          have hj := posF_to rfl rfl (ih0 a0 a1 (IntKind.i64.wrap (p0_0 + 1)) _ h)
          refine lp_to hj (.one ⟨_, .done _, [], [], ?_⟩)
          clear hj
          try simp only [go_sem]
      · replace h := ifF (c := (decide (p0_0 < ((List.length a0 : Nat) : Int)))) hb2 h
        try simp only [go_sem]
        refine seq_go ?_
        try simp only [go_sem]
        replace h := Option.some.inj h
        obtain rfl := h
        simp only [go_sem]
theorem l_eqHandedS_l1_ok (n : Nat) : (∀ (a0 : List Handed) (a1 : List Handed) (p0_0 : Int) (r : Bool), l_eqHandedS_l1 n a0 a1 p0_0 = some r → posF Try.prog Try.f36 [1, 1, 0, 1, 0] (.bool r) ⟨[(0, .ro (List.map Handed.ds a0)), (1, .ro (List.map Handed.ds a1)), (5, .int .i64 p0_0)], [], []⟩) := (l_eqHandedS_l1_all n)

theorem l_eqHandedS_ok (a0 : List Handed) (a1 : List Handed) (r : Bool) (h : l_eqHandedS a0 a1 = some r) : AC Try.prog 36 [.ro (List.map Handed.ds a0), .ro (List.map Handed.ds a1)] (.bool r) := by
  unfold l_eqHandedS at h
  refine ac_fn mixed Try.func36 rfl rfl rfl (by kernel_rfl) (by kernel_rfl) ?_
  try simp only [go_sem]
  refine cond_i (fun hb1 => ?_) (fun hb1 => ?_)
  · replace h := ifT (c := (!decide (((List.length a0 : Nat) : Int) = ((List.length a1 : Nat) : Int)))) hb1 h
    try simp only [go_sem]
    replace h := Option.some.inj h
    obtain rfl := h
    simp only [go_sem]
  · replace h := ifF (c := (!decide (((List.length a0 : Nat) : Int) = ((List.length a1 : Nat) : Int)))) hb1 h
    try simp only [go_sem]
    refine seq_go ?_
    try simp only [go_sem]
    have hj := posF_to rfl rfl (l_eqHandedS_l1_ok fuel a0 a1 0 _ h)
    refine loop_to hj (.one ⟨_, .done _, [], [], ?_⟩)
    clear hj
    try simp only [go_sem]
theorem l_eqDeque_ok (a0 : Deque) (a1 : Deque) (r : Bool) (h : l_eqDeque a0 a1 = some r) : AC Try.prog 11 [.agg (Deque.avs a0), .agg (Deque.avs a1)] (.bool r) := by
  unfold l_eqDeque at h
  refine ac_fn mixed Try.func11 rfl rfl rfl (by kernel_rfl) (by kernel_rfl) ?_
  try simp only [go_sem]
  refine cond_i (fun hb1 => ?_) (fun hb1 => ?_)
  · replace h := ifT (c := (!decide (a0.top = a1.top))) hb1 h
    try simp only [go_sem]
    replace h := Option.some.inj h
    obtain rfl := h
    simp only [go_sem]
  · replace h := ifF (c := (!decide (a0.top = a1.top))) hb1 h
    try simp only [go_sem]
    refine seq_go ?_
    try simp only [go_sem]
    refine cond_i (fun hb2 => ?_) (fun hb2 => ?_)
    · replace h := ifT (c := (!decide (a0.bottom = a1.bottom))) hb2 h
      try simp only [go_sem]
      replace h := Option.some.inj h
      obtain rfl := h
      simp only [go_sem]
    · replace h := ifF (c := (!decide (a0.bottom = a1.bottom))) hb2 h
      try simp only [go_sem]
      refine seq_go ?_
      try simp only [go_sem]
      replace h := bindE h
      obtain ⟨v6004, hv6004, h⟩ := h
      refine call_i (l_eqInt64S_ok _ _ _ hv6004) ?_
      try simp only [go_sem]
      refine cond_i (fun hb3 => ?_) (fun hb3 => ?_)
      · replace h := ifT (c := (!v6004)) hb3 h
        try simp only [go_sem]
        replace h := Option.some.inj h
        obtain rfl := h
        simp only [go_sem]
      · replace h := ifF (c := (!v6004)) hb3 h
        try simp only [go_sem]
        refine seq_go ?_
        try simp only [go_sem]
        replace h := bindE h
        obtain ⟨v8004, hv8004, h⟩ := h
        refine call_i (l_eqDequeActorS_ok _ _ _ hv8004) ?_
        try simp only [go_sem]
        refine cond_i (fun hb4 => ?_) (fun hb4 => ?_)
        · replace h := ifT (c := (!v8004)) hb4 h
          try simp only [go_sem]
          replace h := Option.some.inj h
          obtain rfl := h
          simp only [go_sem]
        · replace h := ifF (c := (!v8004)) hb4 h
          try simp only [go_sem]
          refine seq_go ?_
          try simp only [go_sem]
          replace h := bindE h
          obtain ⟨v10004, hv10004, h⟩ := h
          refine call_i (l_eqHandedS_ok _ _ _ hv10004) ?_
          try simp only [go_sem]
          refine cond_i (fun hb5 => ?_) (fun hb5 => ?_)
          · replace h := ifT (c := (!v10004)) hb5 h
            try simp only [go_sem]
            replace h := Option.some.inj h
            obtain rfl := h
            simp only [go_sem]
          · replace h := ifF (c := (!v10004)) hb5 h
            try simp only [go_sem]
            refine seq_go ?_
            try simp only [go_sem]
            replace h := bindE h
            obtain ⟨v12004, hv12004, h⟩ := h
            refine call_i (l_eqInt64S_ok _ _ _ hv12004) ?_
            try simp only [go_sem]
            refine cond_i (fun hb6 => ?_) (fun hb6 => ?_)
            · replace h := ifT (c := (!v12004)) hb6 h
              try simp only [go_sem]
              replace h := Option.some.inj h
              obtain rfl := h
              simp only [go_sem]
            · replace h := ifF (c := (!v12004)) hb6 h
              try simp only [go_sem]
              refine seq_go ?_
              try simp only [go_sem]
              replace h := Option.some.inj h
              obtain rfl := h
              simp only [go_sem]
theorem l_markDequeActorS_l1_all (n : Nat) : (∀ (p0_0 : List DequeActor) (p0_1 : Int) (p0_2 : Int) (z1 : Option Nat) (r : Int × (List DequeActor)), l_markDequeActorS_l1 n p0_0 p0_1 p0_2 = some r → posG Try.prog Try.f37 [1, 0, 1, 0] (.int .i64 r.1) [(1, ⟨List.map DequeActor.ds r.2, z1, 0⟩)] [] ⟨[(0, .own 1), (1, .int .i64 p0_1), (5, .int .i64 p0_2)], [(1, some ⟨List.map DequeActor.ds p0_0, z1, 0⟩)], []⟩) := by
  induction n with
  | zero => exact ((fun _ _ _ _ _ h => by rw [l_markDequeActorS_l1] at h; cases h))
  | succ n ih =>
    have ih0 := ih
    · intro p0_0 p0_1 p0_2 z1 r h
      rw [l_markDequeActorS_l1] at h
      refine posG_of rfl rfl ?_
      try simp only [go_sem]
      refine loop_i ?_
      try simp only [go_sem]
      refine cond_i (fun hb1 => ?_) (fun hb1 => ?_)
      · replace h := ifT (c := (decide (p0_2 < ((List.length p0_0 : Nat) : Int)))) hb1 h
        try simp only [go_sem]
        refine seq_go ?_
        try simp only [go_sem]
        replace h := bindE h
        obtain ⟨v5002, hv5002, h⟩ := h
        refine idx_m hv5002 (DequeActor.ds_len _) ?_
        try simp only [go_sem]
        refine opt_i (row_m hv5002) ?_
        try simp only [go_sem]
        replace h := bindE h
        obtain ⟨v5006, hv5006, h⟩ := h
        replace h := bindE h
        obtain ⟨v5006_36, hv5006_36, h⟩ := h
        refine call_g ⟨[(3000080096, .sub 1 0 [(5, Int.toNat p0_2, 0)], none)], [(1, 3000080096)], [], [], [], true⟩ (by kernel_rfl) (l_markInt64S_ok _ _ none _ hv5006) (by kernel_rfl) ?_
        try simp only [go_sem]
        refine opt_i (getP_1 (r := List.map i64D v5002.todo) (row_m hv5002) (DequeActor.ds_len _) (by simp only [go_sem, DequeActor.ds_eq])) ?_
        try simp only [go_sem]
        refine row_i ((List.map DequeActor.ds p0_0).set (Int.toNat p0_2) [.gone, .int .i64 v5002.pc, .int .i64 v5002.t, .int .i64 v5002.b, .int .i64 v5002.x]) ((putR_1 (row_m hv5002) (d' := .sl (List.map i64D v5002.todo)) (by simp only [go_sem, DequeActor.ds_eq])).trans (by simp only [go_sem, DequeActor.ds_eq])) ?_
        try simp only [go_sem]
        refine and_i (getC_1 (set_at (row_m hv5002)) rfl rfl) ?_
        try simp only [go_sem]
        refine row_i (List.map DequeActor.ds v5006_36) (((putR_1 (set_at (row_m hv5002)) (d' := .gone) rfl).trans (List.set_set ..)).trans (by rw [← set1_some hv5006_36]; simp only [List.map_set, go_sem, DequeActor.ds_eq])) ?_
        try simp only [go_sem]
        replace h := bindE h
        obtain ⟨v6003, hv6003, h⟩ := h
        refine idx_m hv6003 (DequeActor.ds_len _) ?_
        try simp only [go_sem]
        replace h := bindE h
        obtain ⟨v6005_37, hv6005_37, h⟩ := h
        refine opt_i (row_m hv6003) ?_
        try simp only [go_sem]
        refine row_i (List.map DequeActor.ds v6005_37) (by rw [← set1_some hv6005_37]; simp only [List.map_set, go_sem, DequeActor.ds_eq]) ?_
        try simp only [go_sem]
        replace h := bindE h
        obtain ⟨v8003, hv8003, h⟩ := h
        refine idx_m hv8003 (DequeActor.ds_len _) ?_
        try simp only [go_sem]
        replace h := bindE h
        obtain ⟨v8005_38, hv8005_38, h⟩ := h
        refine opt_i (row_m hv8003) ?_
        try simp only [go_sem]
        refine row_i (List.map DequeActor.ds v8005_38) (by rw [← set1_some hv8005_38]; simp only [List.map_set, go_sem, DequeActor.ds_eq]) ?_
        try simp only [go_sem]
        replace h := bindE h
        obtain ⟨v10003, hv10003, h⟩ := h
        refine idx_m hv10003 (DequeActor.ds_len _) ?_
        try simp only [go_sem]
        replace h := bindE h
        obtain ⟨v10005_39, hv10005_39, h⟩ := h
        refine opt_i (row_m hv10003) ?_
        try simp only [go_sem]
        refine row_i (List.map DequeActor.ds v10005_39) (by rw [← set1_some hv10005_39]; simp only [List.map_set, go_sem, DequeActor.ds_eq]) ?_
        try simp only [go_sem]
        replace h := bindE h
        obtain ⟨v12003, hv12003, h⟩ := h
        refine idx_m hv12003 (DequeActor.ds_len _) ?_
        try simp only [go_sem]
        replace h := bindE h
        obtain ⟨v12005_40, hv12005_40, h⟩ := h
        refine opt_i (row_m hv12003) ?_
        try simp only [go_sem]
        refine row_i (List.map DequeActor.ds v12005_40) (by rw [← set1_some hv12005_40]; simp only [List.map_set, go_sem, DequeActor.ds_eq]) ?_
        try simp only [go_sem]
        refine seq_go ?_
        try simp only [go_sem]
        have hj := posG_to rfl rfl (ih0 v12005_40 (IntKind.i64.wrap ((IntKind.i64.wrap ((IntKind.i64.wrap ((IntKind.i64.wrap (v5006.1 + 1)) + 1)) + 1)) + 1)) (IntKind.i64.wrap (p0_2 + 1)) z1 _ h)
        refine lp_to hj (.one ⟨_, .done _, [(1, 1)], [], ?_⟩)
        clear hj
        try simp only [go_sem]
      · replace h := ifF (c := (decide (p0_2 < ((List.length p0_0 : Nat) : Int)))) hb1 h
        try simp only [go_sem]
        refine seq_go ?_
        try simp only [go_sem]
        replace h := Option.some.inj h
        obtain rfl := h
        refine ret_i (.done _) [(1, 1)] [] ?_
        simp only [go_sem]
theorem l_markDequeActorS_l1_ok (n : Nat) : (∀ (p0_0 : List DequeActor) (p0_1 : Int) (p0_2 : Int) (z1 : Option Nat) (r : Int × (List DequeActor)), l_markDequeActorS_l1 n p0_0 p0_1 p0_2 = some r → posG Try.prog Try.f37 [1, 0, 1, 0] (.int .i64 r.1) [(1, ⟨List.map DequeActor.ds r.2, z1, 0⟩)] [] ⟨[(0, .own 1), (1, .int .i64 p0_1), (5, .int .i64 p0_2)], [(1, some ⟨List.map DequeActor.ds p0_0, z1, 0⟩)], []⟩) := (l_markDequeActorS_l1_all n)

theorem l_markDequeActorS_ok (a0 : List DequeActor) (a1 : Int) (z1 : Option Nat) (r : Int × (List DequeActor)) (h : l_markDequeActorS a0 a1 = some r) : AG Try.prog 37 [.own 1, .int .i64 a1] [(1, ⟨List.map DequeActor.ds a0, z1, 0⟩)] [] (.int .i64 r.1) [(1, ⟨List.map DequeActor.ds r.2, z1, 0⟩)] [] := by
  unfold l_markDequeActorS at h
  refine ag_fn mixed Try.func37 rfl rfl rfl (by kernel_rfl) (by kernel_rfl) ?_
  try simp only [go_sem]
  have hj := posG_to rfl rfl (l_markDequeActorS_l1_ok fuel a0 a1 0 z1 _ h)
  refine loop_to hj (.one ⟨_, .done _, [(1, 1)], [], ?_⟩)
  clear hj
  try simp only [go_sem]
theorem l_markHandedS_l1_all (n : Nat) : (∀ (p0_0 : List Handed) (p0_1 : Int) (p0_2 : Int) (z1 : Option Nat) (r : Int × (List Handed)), l_markHandedS_l1 n p0_0 p0_1 p0_2 = some r → posG Try.prog Try.f38 [1, 0, 1, 0] (.int .i64 r.1) [(1, ⟨List.map Handed.ds r.2, z1, 0⟩)] [] ⟨[(0, .own 1), (1, .int .i64 p0_1), (5, .int .i64 p0_2)], [(1, some ⟨List.map Handed.ds p0_0, z1, 0⟩)], []⟩) := by
  induction n with
  | zero => exact ((fun _ _ _ _ _ h => by rw [l_markHandedS_l1] at h; cases h))
  | succ n ih =>
    have ih0 := ih
    · intro p0_0 p0_1 p0_2 z1 r h
      rw [l_markHandedS_l1] at h
      refine posG_of rfl rfl ?_
      try simp only [go_sem]
      refine loop_i ?_
      try simp only [go_sem]
      refine cond_i (fun hb1 => ?_) (fun hb1 => ?_)
      · replace h := ifT (c := (decide (p0_2 < ((List.length p0_0 : Nat) : Int)))) hb1 h
        try simp only [go_sem]
        refine seq_go ?_
        try simp only [go_sem]
        replace h := bindE h
        obtain ⟨v5003, hv5003, h⟩ := h
        refine idx_m hv5003 (Handed.ds_len _) ?_
        try simp only [go_sem]
        replace h := bindE h
        obtain ⟨v5005_15, hv5005_15, h⟩ := h
        refine opt_i (row_m hv5003) ?_
        try simp only [go_sem]
        refine row_i (List.map Handed.ds v5005_15) (by rw [← set1_some hv5005_15]; simp only [List.map_set, go_sem, Handed.ds_eq]) ?_
        try simp only [go_sem]
        replace h := bindE h
        obtain ⟨v7003, hv7003, h⟩ := h
        refine idx_m hv7003 (Handed.ds_len _) ?_
        try simp only [go_sem]
        replace h := bindE h
        obtain ⟨v7005_16, hv7005_16, h⟩ := h
        refine opt_i (row_m hv7003) ?_
        try simp only [go_sem]
        refine row_i (List.map Handed.ds v7005_16) (by rw [← set1_some hv7005_16]; simp only [List.map_set, go_sem, Handed.ds_eq]) ?_
        try simp only [go_sem]
        refine seq_go ?_
        try simp only [go_sem]
        have hj := posG_to rfl rfl (ih0 v7005_16 (IntKind.i64.wrap ((IntKind.i64.wrap (p0_1 + 1)) + 1)) (IntKind.i64.wrap (p0_2 + 1)) z1 _ h)
        refine lp_to hj (.one ⟨_, .done _, [(1, 1)], [], ?_⟩)
        clear hj
        try simp only [go_sem]
      · replace h := ifF (c := (decide (p0_2 < ((List.length p0_0 : Nat) : Int)))) hb1 h
        try simp only [go_sem]
        refine seq_go ?_
        try simp only [go_sem]
        replace h := Option.some.inj h
        obtain rfl := h
        refine ret_i (.done _) [(1, 1)] [] ?_
        simp only [go_sem]
theorem l_markHandedS_l1_ok (n : Nat) : (∀ (p0_0 : List Handed) (p0_1 : Int) (p0_2 : Int) (z1 : Option Nat) (r : Int × (List Handed)), l_markHandedS_l1 n p0_0 p0_1 p0_2 = some r → posG Try.prog Try.f38 [1, 0, 1, 0] (.int .i64 r.1) [(1, ⟨List.map Handed.ds r.2, z1, 0⟩)] [] ⟨[(0, .own 1), (1, .int .i64 p0_1), (5, .int .i64 p0_2)], [(1, some ⟨List.map Handed.ds p0_0, z1, 0⟩)], []⟩) := (l_markHandedS_l1_all n)

theorem l_markHandedS_ok (a0 : List Handed) (a1 : Int) (z1 : Option Nat) (r : Int × (List Handed)) (h : l_markHandedS a0 a1 = some r) : AG Try.prog 38 [.own 1, .int .i64 a1] [(1, ⟨List.map Handed.ds a0, z1, 0⟩)] [] (.int .i64 r.1) [(1, ⟨List.map Handed.ds r.2, z1, 0⟩)] [] := by
  unfold l_markHandedS at h
  refine ag_fn mixed Try.func38 rfl rfl rfl (by kernel_rfl) (by kernel_rfl) ?_
  try simp only [go_sem]
  have hj := posG_to rfl rfl (l_markHandedS_l1_ok fuel a0 a1 0 z1 _ h)
  refine loop_to hj (.one ⟨_, .done _, [(1, 1)], [], ?_⟩)
  clear hj
  try simp only [go_sem]
theorem l_markDeque_ok (a0 : Deque) (a1 : Int) (z1 : Option Nat) (z2 : Option Nat) (z3 : Option Nat) (z4 : Option Nat) (r : Int × (List Int) × (List DequeActor) × (List Handed) × (List Int)) (h : l_markDeque a0 a1 = some r) : AG Try.prog 12 [.agg [.int .i64 a0.top, .int .i64 a0.bottom, .own 1, .own 2, .own 3, .own 4], .int .i64 a1] [(1, ⟨List.map i64D a0.buffer, z1, 0⟩), (2, ⟨List.map DequeActor.ds a0.actors, z2, 0⟩), (3, ⟨List.map Handed.ds a0.taken, z3, 0⟩), (4, ⟨List.map i64D a0.refused, z4, 0⟩)] [] (.int .i64 r.1) [(1, ⟨List.map i64D r.2.1, z1, 0⟩), (2, ⟨List.map DequeActor.ds r.2.2.1, z2, 0⟩), (3, ⟨List.map Handed.ds r.2.2.2.1, z3, 0⟩), (4, ⟨List.map i64D r.2.2.2.2, z4, 0⟩)] [] := by
  unfold l_markDeque at h
  refine ag_fn mixed Try.func12 rfl rfl rfl (by kernel_rfl) (by kernel_rfl) ?_
  try simp only [go_sem]
  replace h := bindE h
  obtain ⟨v2003, hv2003, h⟩ := h
  refine call_g ⟨[], [(1, 1)], [], [], [], true⟩ (by kernel_rfl) (l_markInt64S_ok _ _ z1 _ hv2003) (by kernel_rfl) ?_
  try simp only [go_sem]
  replace h := bindE h
  obtain ⟨v3003, hv3003, h⟩ := h
  refine call_g ⟨[], [(1, 2)], [], [], [], true⟩ (by kernel_rfl) (l_markDequeActorS_ok _ _ z2 _ hv3003) (by kernel_rfl) ?_
  try simp only [go_sem]
  replace h := bindE h
  obtain ⟨v4003, hv4003, h⟩ := h
  refine call_g ⟨[], [(1, 3)], [], [], [], true⟩ (by kernel_rfl) (l_markHandedS_ok _ _ z3 _ hv4003) (by kernel_rfl) ?_
  try simp only [go_sem]
  replace h := bindE h
  obtain ⟨v5003, hv5003, h⟩ := h
  refine call_g ⟨[], [(1, 4)], [], [], [], true⟩ (by kernel_rfl) (l_markInt64S_ok _ _ z4 _ hv5003) (by kernel_rfl) ?_
  try simp only [go_sem]
  replace h := Option.some.inj h
  obtain rfl := h
  refine ret_i (.done _) [(1, 1), (2, 2), (3, 3), (4, 4)] [] ?_
  simp only [go_sem]
theorem l_FnExactTasksLeft_j3_ok (v18002 : Int × (List Int)) (p2_0 : Bool) (r : Bool) (h : l_FnExactTasksLeft_j3 v18002 p2_0 = some r) : posF Try.prog Try.f3 [1, 1, 1, 1, 1, 1, 1, 1, 1, 1, 1, 1, 1, 1, 1, 1, 1, 1, 1, 0, 1] (.bool r) ⟨[(7, .own 1000002000), (10, .int .i64 v18002.1), (87, .bool p2_0)], [(1000002000, some ⟨List.map i64D v18002.2, some 1, 0⟩)], []⟩ := by
  unfold l_FnExactTasksLeft_j3 at h
  refine posF_of rfl rfl ?_
  try simp only [go_sem]
  refine cond_i (fun hb11 => ?_) (fun hb11 => ?_)
  · replace h := ifT (c := p2_0) hb11 h
    try simp only [go_sem]
    replace h := Option.some.inj h
    obtain rfl := h
    simp only [go_sem]
  · replace h := ifF (c := p2_0) hb11 h
    try simp only [go_sem]
    refine seq_go ?_
    try simp only [go_sem]
    replace h := bindE h
    obtain ⟨v29002, hv29002, h⟩ := h
    refine call_i (l_heldInt64S_ok _ _ _ hv29002) ?_
    try simp only [go_sem]
    refine cond_i (fun hb12 => ?_) (fun hb12 => ?_)
    · replace h := ifT (c := (decide (v29002 < 0))) hb12 h
      try simp only [go_sem]
      replace h := Option.some.inj h
      obtain rfl := h
      simp only [go_sem]
    · replace h := ifF (c := (decide (v29002 < 0))) hb12 h
      try simp only [go_sem]
      refine seq_go ?_
      try simp only [go_sem]
      refine cond_i (fun hb13 => ?_) (fun hb13 => ?_)
      · replace h := ifT (c := (!decide (v29002 = v18002.1))) hb13 h
        try simp only [go_sem]
        replace h := Option.some.inj h
        obtain rfl := h
        simp only [go_sem]
      · replace h := ifF (c := (!decide (v29002 = v18002.1))) hb13 h
        try simp only [go_sem]
        refine seq_go ?_
        try simp only [go_sem]
        replace h := Option.some.inj h
        obtain rfl := h
        simp only [go_sem]
theorem l_FnExactTasksLeft_j2_ok (a0 : Deque) (v6002 : (List Int) × Int) (v8001 : (List Int) × Int) (p1_0 : Bool) (r : Bool) (h : l_FnExactTasksLeft_j2 a0 v6002 v8001 p1_0 = some r) : posF Try.prog Try.f3 [1, 1, 1, 1, 1, 1, 1, 1, 1, 1, 1, 0, 1] (.bool r) ⟨[(1, .box 1000001500 0), (4, .own 1000001000), (5, .int .i64 v6002.2), (7, .own 1000001001), (61, .bool p1_0)], [(1000001000, some ⟨List.map i64D v6002.1, some 1, 0⟩), (1000001001, some ⟨List.map i64D v8001.1, some 1, 0⟩)], [(1000001500, some [.int .i64 a0.top, .int .i64 a0.bottom, .ro (List.map i64D a0.buffer), .ro (List.map DequeActor.ds a0.actors), .ro (List.map Handed.ds a0.taken), .ro (List.map i64D a0.refused)])]⟩ := by
  unfold l_FnExactTasksLeft_j2 at h
  refine posF_of rfl rfl ?_
  try simp only [go_sem]
  refine cond_i (fun hb7 => ?_) (fun hb7 => ?_)
  · replace h := ifT (c := p1_0) hb7 h
    try simp only [go_sem]
    replace h := Option.some.inj h
    obtain rfl := h
    simp only [go_sem]
  · replace h := ifF (c := p1_0) hb7 h
    try simp only [go_sem]
    refine seq_go ?_
    try simp only [go_sem]
    replace h := bindE h
    obtain ⟨v18002, hv18002, h⟩ := h
    refine call_g ⟨[], [(1, 1000001001)], [], [], [], true⟩ (by kernel_rfl) (l_markInt64S_ok _ _ (some 1) _ hv18002) (by kernel_rfl) ?_
    try simp only [go_sem]
    replace h := bindE h
    obtain ⟨v20002, hv20002, h⟩ := h
    refine call_i (l_heldInt64S_ok _ _ _ hv20002) ?_
    try simp only [go_sem]
    refine cond_i (fun hb8 => ?_) (fun hb8 => ?_)
    · replace h := ifT (c := (decide (v20002 < 0))) hb8 h
      try simp only [go_sem]
      replace h := Option.some.inj h
      obtain rfl := h
      simp only [go_sem]
    · replace h := ifF (c := (decide (v20002 < 0))) hb8 h
      try simp only [go_sem]
      refine seq_go ?_
      try simp only [go_sem]
      refine cond_i (fun hb9 => ?_) (fun hb9 => ?_)
      · replace h := ifT (c := (!decide (v20002 = v18002.1))) hb9 h
        try simp only [go_sem]
        replace h := Option.some.inj h
        obtain rfl := h
        simp only [go_sem]
      · replace h := ifF (c := (!decide (v20002 = v18002.1))) hb9 h
        try simp only [go_sem]
        refine seq_go ?_
        try simp only [go_sem]
        replace h := bindE h
        obtain ⟨v25001, hv25001, h⟩ := h
        refine call_i (l_toDeque_ok _ _ hv25001) ?_
        try simp only [go_sem]
        replace h := bindE h
        obtain ⟨v25002, hv25002, h⟩ := h
        refine call_i (i_TasksLeft_ok _ _ hv25002) ?_
        try simp only [go_sem]
        replace h := bindE h
        obtain ⟨v26002, hv26002, h⟩ := h
        refine call_i (l_eqInt64S_ok _ _ _ hv26002) ?_
        try simp only [go_sem]
        refine cond_i (fun hb10 => ?_) (fun hb10 => ?_)
        · replace h := ifT (c := (!v26002)) hb10 h
          try simp only [go_sem]
          have hj := posF_to rfl rfl (l_FnExactTasksLeft_j3_ok v18002 true _ h)
          refine seq_to hj (.one ⟨_, .done _, [(1000002000, 1000001001)], [], ?_⟩)
          clear hj
          try simp only [go_sem]
        · replace h := ifF (c := (!v26002)) hb10 h
          try simp only [go_sem]
          have hj := posF_to rfl rfl (l_FnExactTasksLeft_j3_ok v18002 (!decide (v25002.2 = v6002.2)) _ h)
          refine seq_to hj (.one ⟨_, .done _, [(1000002000, 1000001001)], [], ?_⟩)
          clear hj
          try simp only [go_sem]
theorem l_FnExactTasksLeft_j1_ok (a0 : Deque) (v6002 : (List Int) × Int) (v7001 : Deque) (v8001 : (List Int) × Int) (p0_0 : Bool) (r : Bool) (h : l_FnExactTasksLeft_j1 a0 v6002 v7001 v8001 p0_0 = some r) : posF Try.prog Try.f3 [1, 1, 1, 1, 1, 1, 1, 0, 1] (.bool r) ⟨[(1, .box 1000000500 0), (4, .own 1000000000), (5, .int .i64 v6002.2), (6, .box 1000000501 0), (7, .own 1000000005), (8, .int .i64 v8001.2), (40, .bool p0_0)], [(1000000000, some ⟨List.map i64D v6002.1, some 1, 0⟩), (1000000001, some ⟨List.map i64D v7001.buffer, some 1, 0⟩), (1000000002, some ⟨List.map DequeActor.ds v7001.actors, some 5, 0⟩), (1000000003, some ⟨List.map Handed.ds v7001.taken, some 2, 0⟩), (1000000004, some ⟨List.map i64D v7001.refused, some 1, 0⟩), (1000000005, some ⟨List.map i64D v8001.1, some 1, 0⟩)], [(1000000500, some [.int .i64 a0.top, .int .i64 a0.bottom, .ro (List.map i64D a0.buffer), .ro (List.map DequeActor.ds a0.actors), .ro (List.map Handed.ds a0.taken), .ro (List.map i64D a0.refused)]), (1000000501, some [.int .i64 v7001.top, .int .i64 v7001.bottom, .own 1000000001, .own 1000000002, .own 1000000003, .own 1000000004])]⟩ := by
  unfold l_FnExactTasksLeft_j1 at h
  refine posF_of rfl rfl ?_
  try simp only [go_sem]
  refine cond_i (fun hb3 => ?_) (fun hb3 => ?_)
  · replace h := ifT (c := p0_0) hb3 h
    try simp only [go_sem]
    replace h := Option.some.inj h
    obtain rfl := h
    simp only [go_sem]
  · replace h := ifF (c := p0_0) hb3 h
    try simp only [go_sem]
    refine seq_go ?_
    try simp only [go_sem]
    refine draw_i [] .fin (by kernel_rfl) ?_
    try simp only [go_sem]
    replace h := bindE h
    obtain ⟨v11002, hv11002, h⟩ := h
    refine call_i (l_toDeque_ok _ _ hv11002) ?_
    try simp only [go_sem]
    replace h := bindE h
    obtain ⟨v11003, hv11003, h⟩ := h
    refine call_i (l_eqDeque_ok _ _ _ hv11003) ?_
    try simp only [go_sem]
    refine seq_go ?_
    try simp only [go_sem]
    refine cond_i (fun hb4 => ?_) (fun hb4 => ?_)
    · replace h := ifT (c := (!v11003)) hb4 h
      try simp only [go_sem]
      replace h := Option.some.inj h
      obtain rfl := h
      simp only [go_sem]
    · replace h := ifF (c := (!v11003)) hb4 h
      try simp only [go_sem]
      refine seq_go ?_
      try simp only [go_sem]
      replace h := bindE h
      obtain ⟨v14002, hv14002, h⟩ := h
      refine call_g ⟨[], [(1, 1000000001), (2, 1000000002), (3, 1000000003), (4, 1000000004)], [], [], [], true⟩ (by kernel_rfl) (l_markDeque_ok _ _ (some 1) (some 5) (some 2) (some 1) _ hv14002) (by kernel_rfl) ?_
      try simp only [go_sem]
      refine cond_i (fun hb5 => ?_) (fun hb5 => ?_)
      · replace h := ifT (c := (decide (v14002.1 < 0))) hb5 h
        try simp only [go_sem]
        have hj := posF_to rfl rfl (l_FnExactTasksLeft_j2_ok a0 v6002 v8001 true _ h)
        refine seq_to hj (.one ⟨_, .done _, [(1000001000, 1000000000), (1000001001, 1000000005)], [(1000001500, 1000000500)], ?_⟩)
        clear hj
        try simp only [go_sem]
      · replace h := ifF (c := (decide (v14002.1 < 0))) hb5 h
        try simp only [go_sem]
        replace h := bindE h
        obtain ⟨v15005, hv15005, h⟩ := h
        refine call_i (l_eqInt64S_ok _ _ _ hv15005) ?_
        try simp only [go_sem]
        refine cond_i (fun hb6 => ?_) (fun hb6 => ?_)
        · replace h := ifT (c := (!v15005)) hb6 h
          try simp only [go_sem]
          have hj := posF_to rfl rfl (l_FnExactTasksLeft_j2_ok a0 v6002 v8001 true _ h)
          refine seq_to hj (.one ⟨_, .done _, [(1000001000, 1000000000), (1000001001, 1000000005)], [(1000001500, 1000000500)], ?_⟩)
          clear hj
          try simp only [go_sem]
        · replace h := ifF (c := (!v15005)) hb6 h
          try simp only [go_sem]
          have hj := posF_to rfl rfl (l_FnExactTasksLeft_j2_ok a0 v6002 v8001 (!decide (v8001.2 = v6002.2)) _ h)
          refine seq_to hj (.one ⟨_, .done _, [(1000001000, 1000000000), (1000001001, 1000000005)], [(1000001500, 1000000500)], ?_⟩)
          clear hj
          try simp only [go_sem]
theorem l_FnExactTasksLeft_ok (a0 : Deque) (r : Bool) (h : l_FnExactTasksLeft a0 = some r) : AC Try.prog 3 [.agg (Deque.avs a0)] (.bool r) := by
  unfold l_FnExactTasksLeft at h
  refine ac_fn mixed Try.func3 rfl rfl rfl (by kernel_rfl) (by kernel_rfl) ?_
  try simp only [go_sem]
  replace h := bindE h
  obtain ⟨v3002, hv3002, h⟩ := h
  refine call_i (l_szDeque_ok _ _ _ hv3002) ?_
  try simp only [go_sem]
  refine cond_i (fun hb1 => ?_) (fun hb1 => ?_)
  · replace h := ifT (c := (decide (v3002 < 0))) hb1 h
    try simp only [go_sem]
    replace h := Option.some.inj h
    obtain rfl := h
    simp only [go_sem]
  · replace h := ifF (c := (decide (v3002 < 0))) hb1 h
    try simp only [go_sem]
    refine seq_go ?_
    try simp only [go_sem]
    replace h := bindE h
    obtain ⟨v6001, hv6001, h⟩ := h
    refine call_i (l_toDeque_ok _ _ hv6001) ?_
    try simp only [go_sem]
    replace h := bindE h
    obtain ⟨v6002, hv6002, h⟩ := h
    refine call_i (s_TasksLeft_ok _ _ hv6002) ?_
    try simp only [go_sem]
    replace h := bindE h
    obtain ⟨v7001, hv7001, h⟩ := h
    refine call_i (l_toDeque_ok _ _ hv7001) ?_
    try simp only [go_sem]
    replace h := bindE h
    obtain ⟨v8001, hv8001, h⟩ := h
    refine call_i (i_TasksLeft_ok _ _ hv8001) ?_
    try simp only [go_sem]
    replace h := bindE h
    obtain ⟨v9002, hv9002, h⟩ := h
    refine call_i (l_eqInt64S_ok _ _ _ hv9002) ?_
    try simp only [go_sem]
    refine cond_i (fun hb2 => ?_) (fun hb2 => ?_)
    · replace h := ifT (c := (!v9002)) hb2 h
      try simp only [go_sem]
      have hj := posF_to rfl rfl (l_FnExactTasksLeft_j1_ok a0 v6002 v7001 v8001 true _ h)
      refine seq_to hj (.one ⟨_, .done _, [(1000000000, 96032), (1000000001, 112016), (1000000002, 112017), (1000000003, 112018), (1000000004, 112019), (1000000005, 128016)], [(1000000500, 1000), (1000000501, 7002)], ?_⟩)
      clear hj
      try simp only [go_sem]
    · replace h := ifF (c := (!v9002)) hb2 h
      try simp only [go_sem]
      have hj := posF_to rfl rfl (l_FnExactTasksLeft_j1_ok a0 v6002 v7001 v8001 (!decide (v8001.2 = v6002.2)) _ h)
      refine seq_to hj (.one ⟨_, .done _, [(1000000000, 96032), (1000000001, 112016), (1000000002, 112017), (1000000003, 112018), (1000000004, 112019), (1000000005, 128016)], [(1000000500, 1000), (1000000501, 7002)], ?_⟩)
      clear hj
      try simp only [go_sem]
end Go.Proofs.Ytlmanchbpommaaa.Ab
