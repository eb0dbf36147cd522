/-
  The functions do what their models say. Printed by wip/ab/gen.py.
-/
import Derived.Test.YtocpkbclcnjejaaModU
import Derived.Test.YtocpkbclcnjejaaTi2
import Derived.Test.YtocpkbclcnjejaaWlk
namespace Go.Proofs.Ytocpkbclcnjejaa.Ab
set_option linter.unusedVariables false
set_option linter.unusedSimpArgs false
set_option maxRecDepth 20000
set_option maxHeartbeats 4000000
open Go.RowKit

theorem s_l00In_ok (a0 : Int) (a1 : Int) (a2 : Int) (r : Bool) (h : s_l00In a0 a1 a2 = some r) : AC Try.prog 116 [.int .i64 a0, .int .i64 a1, .int .i64 a2] (.bool r) := by
  unfold s_l00In at h
  refine ac_fn mixed Try.func116 rfl rfl rfl (by kernel_rfl) (by kernel_rfl) ?_
  try simp only [go_sem]
  refine cond_i (fun hb1 => ?_) (fun hb1 => ?_)
  · replace h := ifT (c := (decide (a1 ≤ a0))) hb1 h
    try simp only [go_sem]
    refine seq_go ?_
    try simp only [go_sem]
    replace h := Option.some.inj h
    obtain rfl := h
    simp only [go_sem]
  · replace h := ifF (c := (decide (a1 ≤ a0))) hb1 h
    try simp only [go_sem]
    refine seq_go ?_
    try simp only [go_sem]
    replace h := Option.some.inj h
    obtain rfl := h
    simp only [go_sem]
theorem s_PortsOf_j3_ok (p2_0 : Bool) (r : Int) (h : s_PortsOf_j3 p2_0 = some r) : posF Try.prog Try.f171 [1, 1, 1, 0, 1, 0, 1, 1, 1, 1, 1] (.int .i64 r) ⟨[(23, .bool p2_0)], [], []⟩ := by
  unfold s_PortsOf_j3 at h
  refine posF_of rfl rfl ?_
  try simp only [go_sem]
  refine cond_i (fun hb14 => ?_) (fun hb14 => ?_)
  · replace h := ifT (c := p2_0) hb14 h
    try simp only [go_sem]
    replace h := Option.some.inj h
    obtain rfl := h
    simp only [go_sem]
  · replace h := ifF (c := p2_0) hb14 h
    try simp only [go_sem]
    refine seq_go ?_
    try simp only [go_sem]
    replace h := Option.some.inj h
    obtain rfl := h
    simp only [go_sem]
theorem s_PortsOf_j2_ok (a0 : Int) (p1_0 : Bool) (r : Int) (h : s_PortsOf_j2 a0 p1_0 = some r) : posF Try.prog Try.f171 [1, 1, 1, 0, 1, 0, 1, 1, 1] (.int .i64 r) ⟨[(13, .int .i64 a0), (19, .bool p1_0)], [], []⟩ := by
  unfold s_PortsOf_j2 at h
  refine posF_of rfl rfl ?_
  try simp only [go_sem]
  refine cond_i (fun hb10 => ?_) (fun hb10 => ?_)
  · replace h := ifT (c := p1_0) hb10 h
    try simp only [go_sem]
    replace h := Option.some.inj h
    obtain rfl := h
    simp only [go_sem]
  · replace h := ifF (c := p1_0) hb10 h
    try simp only [go_sem]
    refine cond_i (fun hb11 => ?_) (fun hb11 => ?_)
    · replace h := ifT (c := (decide (a0 = 2))) hb11 h
      try simp only [go_sem]
      have hj := posF_to rfl rfl (s_PortsOf_j3_ok (decide (a0 = 2)) _ h)
      refine seq_to hj (.one ⟨_, .done _, [], [], ?_⟩)
      clear hj
      try simp only [go_sem]
    · replace h := ifF (c := (decide (a0 = 2))) hb11 h
      try simp only [go_sem]
      refine cond_i (fun hb12 => ?_) (fun hb12 => ?_)
      · replace h := ifT (c := (decide (a0 = 3))) hb12 h
        try simp only [go_sem]
        have hj := posF_to rfl rfl (s_PortsOf_j3_ok (decide (a0 = 3)) _ h)
        refine seq_to hj (.one ⟨_, .done _, [], [], ?_⟩)
        clear hj
        try simp only [go_sem]
      · replace h := ifF (c := (decide (a0 = 3))) hb12 h
        try simp only [go_sem]
        refine cond_i (fun hb13 => ?_) (fun hb13 => ?_)
        · replace h := ifT (c := (decide (a0 = 4))) hb13 h
          try simp only [go_sem]
          have hj := posF_to rfl rfl (s_PortsOf_j3_ok (decide (a0 = 4)) _ h)
          refine seq_to hj (.one ⟨_, .done _, [], [], ?_⟩)
          clear hj
          try simp only [go_sem]
        · replace h := ifF (c := (decide (a0 = 4))) hb13 h
          try simp only [go_sem]
          have hj := posF_to rfl rfl (s_PortsOf_j3_ok (decide (a0 = 7)) _ h)
          refine seq_to hj (.one ⟨_, .done _, [], [], ?_⟩)
          clear hj
          try simp only [go_sem]
theorem s_PortsOf_j1_ok (a0 : Int) (p0_0 : Bool) (r : Int) (h : s_PortsOf_j1 a0 p0_0 = some r) : posF Try.prog Try.f171 [1, 1, 1, 0, 1, 0, 1] (.int .i64 r) ⟨[(13, .int .i64 a0), (14, .bool p0_0)], [], []⟩ := by
  unfold s_PortsOf_j1 at h
  refine posF_of rfl rfl ?_
  try simp only [go_sem]
  refine cond_i (fun hb7 => ?_) (fun hb7 => ?_)
  · replace h := ifT (c := p0_0) hb7 h
    try simp only [go_sem]
    replace h := Option.some.inj h
    obtain rfl := h
    simp only [go_sem]
  · replace h := ifF (c := p0_0) hb7 h
    try simp only [go_sem]
    refine cond_i (fun hb8 => ?_) (fun hb8 => ?_)
    · replace h := ifT (c := (decide (a0 = 8))) hb8 h
      try simp only [go_sem]
      have hj := posF_to rfl rfl (s_PortsOf_j2_ok a0 (decide (a0 = 8)) _ h)
      refine seq_to hj (.one ⟨_, .done _, [], [], ?_⟩)
      clear hj
      try simp only [go_sem]
    · replace h := ifF (c := (decide (a0 = 8))) hb8 h
      try simp only [go_sem]
      refine cond_i (fun hb9 => ?_) (fun hb9 => ?_)
      · replace h := ifT (c := (decide (a0 = 10))) hb9 h
        try simp only [go_sem]
        have hj := posF_to rfl rfl (s_PortsOf_j2_ok a0 (decide (a0 = 10)) _ h)
        refine seq_to hj (.one ⟨_, .done _, [], [], ?_⟩)
        clear hj
        try simp only [go_sem]
      · replace h := ifF (c := (decide (a0 = 10))) hb9 h
        try simp only [go_sem]
        have hj := posF_to rfl rfl (s_PortsOf_j2_ok a0 (decide (a0 = 11)) _ h)
        refine seq_to hj (.one ⟨_, .done _, [], [], ?_⟩)
        clear hj
        try simp only [go_sem]
theorem s_PortsOf_ok (a0 : Int) (a1 : Int) (r : Int) (h : s_PortsOf a0 a1 = some r) : AC Try.prog 171 [.int .i64 a0, .int .i64 a1] (.int .i64 r) := by
  unfold s_PortsOf at h
  refine ac_fn mixed Try.func171 rfl rfl rfl (by kernel_rfl) (by kernel_rfl) ?_
  try simp only [go_sem]
  refine cond_i (fun hb1 => ?_) (fun hb1 => ?_)
  · replace h := ifT (c := (decide (a0 = 9))) hb1 h
    try simp only [go_sem]
    replace h := bindE h
    obtain ⟨v3001, hv3001, h⟩ := h
    refine call_i (s_l00In_ok _ _ _ _ hv3001) ?_
    try simp only [go_sem]
    refine cond_i (fun hb2 => ?_) (fun hb2 => ?_)
    · replace h := ifT (c := v3001) hb2 h
      try simp only [go_sem]
      replace h := Option.some.inj h
      obtain rfl := h
      simp only [go_sem]
    · replace h := ifF (c := v3001) hb2 h
      try simp only [go_sem]
      refine seq_go ?_
      try simp only [go_sem]
      replace h := Option.some.inj h
      obtain rfl := h
      simp only [go_sem]
  · replace h := ifF (c := (decide (a0 = 9))) hb1 h
    try simp only [go_sem]
    refine seq_go ?_
    try simp only [go_sem]
    refine cond_i (fun hb3 => ?_) (fun hb3 => ?_)
    · replace h := ifT (c := (!decide (a1 = 0))) hb3 h
      try simp only [go_sem]
      replace h := Option.some.inj h
      obtain rfl := h
      simp only [go_sem]
    · replace h := ifF (c := (!decide (a1 = 0))) hb3 h
      try simp only [go_sem]
      refine seq_go ?_
      try simp only [go_sem]
      refine cond_i (fun hb4 => ?_) (fun hb4 => ?_)
      · replace h := ifT (c := (decide (a0 = 1))) hb4 h
        try simp only [go_sem]
        have hj := posF_to rfl rfl (s_PortsOf_j1_ok a0 (decide (a0 = 1)) _ h)
        refine seq_to hj (.one ⟨_, .done _, [], [], ?_⟩)
        clear hj
        try simp only [go_sem]
      · replace h := ifF (c := (decide (a0 = 1))) hb4 h
        try simp only [go_sem]
        refine cond_i (fun hb5 => ?_) (fun hb5 => ?_)
        · replace h := ifT (c := (decide (a0 = 5))) hb5 h
          try simp only [go_sem]
          have hj := posF_to rfl rfl (s_PortsOf_j1_ok a0 (decide (a0 = 5)) _ h)
          refine seq_to hj (.one ⟨_, .done _, [], [], ?_⟩)
          clear hj
          try simp only [go_sem]
        · replace h := ifF (c := (decide (a0 = 5))) hb5 h
          try simp only [go_sem]
          refine cond_i (fun hb6 => ?_) (fun hb6 => ?_)
          · replace h := ifT (c := (decide (a0 = 6))) hb6 h
            try simp only [go_sem]
            have hj := posF_to rfl rfl (s_PortsOf_j1_ok a0 (decide (a0 = 6)) _ h)
            refine seq_to hj (.one ⟨_, .done _, [], [], ?_⟩)
            clear hj
            try simp only [go_sem]
          · replace h := ifF (c := (decide (a0 = 6))) hb6 h
            try simp only [go_sem]
            have hj := posF_to rfl rfl (s_PortsOf_j1_ok a0 (decide (a0 = 12)) _ h)
            refine seq_to hj (.one ⟨_, .done _, [], [], ?_⟩)
            clear hj
            try simp only [go_sem]
theorem s_l11Fields_ok (a0 : Agent) (r : Int) (h : s_l11Fields a0 = some r) : AC Try.prog 172 [.rop (Agent.avs a0) 0] (.int .i64 r) := by
  unfold s_l11Fields at h
  refine ac_fn mixed Try.func172 rfl rfl rfl (by kernel_rfl) (by kernel_rfl) ?_
  try simp only [go_sem]
  refine cond_i (fun hb1 => ?_) (fun hb1 => ?_)
  · replace h := ifT (c := (decide (a0.kind = 9))) hb1 h
    try simp only [go_sem]
    replace h := Option.some.inj h
    obtain rfl := h
    simp only [go_sem]
  · replace h := ifF (c := (decide (a0.kind = 9))) hb1 h
    try simp only [go_sem]
    refine seq_go ?_
    try simp only [go_sem]
    replace h := Option.some.inj h
    obtain rfl := h
    simp only [go_sem]
theorem s_HasLevel_j1_ok (p0_0 : Bool) (r : Bool) (h : s_HasLevel_j1 p0_0 = some r) : posF Try.prog Try.f92 [1, 0, 1, 0, 1] (.bool r) ⟨[(4, .bool p0_0)], [], []⟩ := by
  unfold s_HasLevel_j1 at h
  refine posF_of rfl rfl ?_
  try simp only [go_sem]
  refine cond_i (fun hb9 => ?_) (fun hb9 => ?_)
  · replace h := ifT (c := p0_0) hb9 h
    try simp only [go_sem]
    replace h := Option.some.inj h
    obtain rfl := h
    simp only [go_sem]
  · replace h := ifF (c := p0_0) hb9 h
    try simp only [go_sem]
    refine seq_go ?_
    try simp only [go_sem]
    replace h := Option.some.inj h
    obtain rfl := h
    simp only [go_sem]
theorem s_HasLevel_ok (a0 : Int) (r : Bool) (h : s_HasLevel a0 = some r) : AC Try.prog 92 [.int .i64 a0] (.bool r) := by
  unfold s_HasLevel at h
  refine ac_fn mixed Try.func92 rfl rfl rfl (by kernel_rfl) (by kernel_rfl) ?_
  try simp only [go_sem]
  refine cond_i (fun hb1 => ?_) (fun hb1 => ?_)
  · replace h := ifT (c := (decide (a0 = 2))) hb1 h
    try simp only [go_sem]
    have hj := posF_to rfl rfl (s_HasLevel_j1_ok (decide (a0 = 2)) _ h)
    refine seq_to hj (.one ⟨_, .done _, [], [], ?_⟩)
    clear hj
    try simp only [go_sem]
  · replace h := ifF (c := (decide (a0 = 2))) hb1 h
    try simp only [go_sem]
    refine cond_i (fun hb2 => ?_) (fun hb2 => ?_)
    · replace h := ifT (c := (decide (a0 = 3))) hb2 h
      try simp only [go_sem]
      have hj := posF_to rfl rfl (s_HasLevel_j1_ok (decide (a0 = 3)) _ h)
      refine seq_to hj (.one ⟨_, .done _, [], [], ?_⟩)
      clear hj
      try simp only [go_sem]
    · replace h := ifF (c := (decide (a0 = 3))) hb2 h
      try simp only [go_sem]
      refine cond_i (fun hb3 => ?_) (fun hb3 => ?_)
      · replace h := ifT (c := (decide (a0 = 4))) hb3 h
        try simp only [go_sem]
        have hj := posF_to rfl rfl (s_HasLevel_j1_ok (decide (a0 = 4)) _ h)
        refine seq_to hj (.one ⟨_, .done _, [], [], ?_⟩)
        clear hj
        try simp only [go_sem]
      · replace h := ifF (c := (decide (a0 = 4))) hb3 h
        try simp only [go_sem]
        refine cond_i (fun hb4 => ?_) (fun hb4 => ?_)
        · replace h := ifT (c := (decide (a0 = 7))) hb4 h
          try simp only [go_sem]
          have hj := posF_to rfl rfl (s_HasLevel_j1_ok (decide (a0 = 7)) _ h)
          refine seq_to hj (.one ⟨_, .done _, [], [], ?_⟩)
          clear hj
          try simp only [go_sem]
        · replace h := ifF (c := (decide (a0 = 7))) hb4 h
          try simp only [go_sem]
          refine cond_i (fun hb5 => ?_) (fun hb5 => ?_)
          · replace h := ifT (c := (decide (a0 = 8))) hb5 h
            try simp only [go_sem]
            have hj := posF_to rfl rfl (s_HasLevel_j1_ok (decide (a0 = 8)) _ h)
            refine seq_to hj (.one ⟨_, .done _, [], [], ?_⟩)
            clear hj
            try simp only [go_sem]
          · replace h := ifF (c := (decide (a0 = 8))) hb5 h
            try simp only [go_sem]
            refine cond_i (fun hb6 => ?_) (fun hb6 => ?_)
            · replace h := ifT (c := (decide (a0 = 9))) hb6 h
              try simp only [go_sem]
              have hj := posF_to rfl rfl (s_HasLevel_j1_ok (decide (a0 = 9)) _ h)
              refine seq_to hj (.one ⟨_, .done _, [], [], ?_⟩)
              clear hj
              try simp only [go_sem]
            · replace h := ifF (c := (decide (a0 = 9))) hb6 h
              try simp only [go_sem]
              refine cond_i (fun hb7 => ?_) (fun hb7 => ?_)
              · replace h := ifT (c := (decide (a0 = 10))) hb7 h
                try simp only [go_sem]
                have hj := posF_to rfl rfl (s_HasLevel_j1_ok (decide (a0 = 10)) _ h)
                refine seq_to hj (.one ⟨_, .done _, [], [], ?_⟩)
                clear hj
                try simp only [go_sem]
              · replace h := ifF (c := (decide (a0 = 10))) hb7 h
                try simp only [go_sem]
                refine cond_i (fun hb8 => ?_) (fun hb8 => ?_)
                · replace h := ifT (c := (decide (a0 = 11))) hb8 h
                  try simp only [go_sem]
                  have hj := posF_to rfl rfl (s_HasLevel_j1_ok (decide (a0 = 11)) _ h)
                  refine seq_to hj (.one ⟨_, .done _, [], [], ?_⟩)
                  clear hj
                  try simp only [go_sem]
                · replace h := ifF (c := (decide (a0 = 11))) hb8 h
                  try simp only [go_sem]
                  have hj := posF_to rfl rfl (s_HasLevel_j1_ok (decide (a0 = 12)) _ h)
                  refine seq_to hj (.one ⟨_, .done _, [], [], ?_⟩)
                  clear hj
                  try simp only [go_sem]
theorem s_l10Kind_ok (a0 : Int) (r : Bool) (h : s_l10Kind a0 = some r) : AC Try.prog 192 [.int .i64 a0] (.bool r) := by
  unfold s_l10Kind at h
  refine ac_fn mixed Try.func192 rfl rfl rfl (by kernel_rfl) (by kernel_rfl) ?_
  try simp only [go_sem]
  replace h := bindE h
  obtain ⟨v2001, hv2001, h⟩ := h
  refine call_i (s_l00In_ok _ _ _ _ hv2001) ?_
  try simp only [go_sem]
  replace h := Option.some.inj h
  obtain rfl := h
  simp only [go_sem]
theorem s_l10Level_ok (a0 : Int) (a1 : Int) (r : Bool) (h : s_l10Level a0 a1 = some r) : AC Try.prog 173 [.int .i64 a0, .int .i64 a1] (.bool r) := by
  unfold s_l10Level at h
  refine ac_fn mixed Try.func173 rfl rfl rfl (by kernel_rfl) (by kernel_rfl) ?_
  try simp only [go_sem]
  replace h := bindE h
  obtain ⟨v2001, hv2001, h⟩ := h
  refine call_i (s_HasLevel_ok _ _ hv2001) ?_
  try simp only [go_sem]
  refine cond_i (fun hb1 => ?_) (fun hb1 => ?_)
  · replace h := ifT (c := v2001) hb1 h
    try simp only [go_sem]
    replace h := bindE h
    obtain ⟨v3001, hv3001, h⟩ := h
    refine call_i (s_l00In_ok _ _ _ _ hv3001) ?_
    try simp only [go_sem]
    replace h := Option.some.inj h
    obtain rfl := h
    simp only [go_sem]
  · replace h := ifF (c := v2001) hb1 h
    try simp only [go_sem]
    refine seq_go ?_
    try simp only [go_sem]
    replace h := bindE h
    obtain ⟨v4001, hv4001, h⟩ := h
    refine call_i (s_l10Kind_ok _ _ hv4001) ?_
    try simp only [go_sem]
    refine cond_i (fun hb2 => ?_) (fun hb2 => ?_)
    · replace h := ifT (c := v4001) hb2 h
      try simp only [go_sem]
      refine seq_go ?_
      try simp only [go_sem]
      replace h := Option.some.inj h
      obtain rfl := h
      simp only [go_sem]
    · replace h := ifF (c := v4001) hb2 h
      try simp only [go_sem]
      refine seq_go ?_
      try simp only [go_sem]
      replace h := Option.some.inj h
      obtain rfl := h
      simp only [go_sem]
theorem s_l11Def_ok (a0 : Int) (r : Bool) (h : s_l11Def a0 = some r) : AC Try.prog 193 [.int .i64 a0] (.bool r) := by
  unfold s_l11Def at h
  refine ac_fn mixed Try.func193 rfl rfl rfl (by kernel_rfl) (by kernel_rfl) ?_
  try simp only [go_sem]
  replace h := bindE h
  obtain ⟨v2001, hv2001, h⟩ := h
  refine call_i (s_l00In_ok _ _ _ _ hv2001) ?_
  try simp only [go_sem]
  replace h := Option.some.inj h
  obtain rfl := h
  simp only [go_sem]
theorem s_l11Content_l3_all (n : Nat) : (∀ (a0 : Agent) (p2_0 : Int) (r : Bool), s_l11Content_l3 n a0 p2_0 = some r → posF Try.prog Try.f174 [1, 0, 1, 0, 1, 1, 1, 1, 1, 1, 1, 1, 1, 1, 1, 0, 1, 0, 1, 0] (.bool r) ⟨[(0, .rop [.int .i64 a0.kind, .int .i64 a0.level, .int .i64 a0.value, .ro (List.map i64D a0.data), .ro (List.map Port.ds a0.ports)] 0), (3, .int .i64 p2_0)], [], []⟩) := by
  induction n with
  | zero => exact ((fun _ _ _ h => by rw [s_l11Content_l3] at h; cases h))
  | succ n ih =>
    have ih0 := ih
    · intro a0 p2_0 r h
      rw [s_l11Content_l3] at h
      refine posF_of rfl rfl ?_
      try simp only [go_sem]
      refine loop_i ?_
      try simp only [go_sem]
      refine cond_i (fun hb21 => ?_) (fun hb21 => ?_)
      · replace h := ifT (c := (decide (p2_0 < ((List.length a0.data : Nat) : Int)))) hb21 h
        try simp only [go_sem]
        refine seq_go ?_
        try simp only [go_sem]
        replace h := bindE h
        obtain ⟨v20005, hv20005, h⟩ := h
        refine idx_m hv20005 rfl ?_
        try simp only [go_sem]
        replace h := bindE h
        obtain ⟨v20007, hv20007, h⟩ := h
        refine call_i (s_l11Def_ok _ _ hv20007) ?_
        try simp only [go_sem]
        refine cond_i (fun hb22 => ?_) (fun hb22 => ?_)
        · replace h := ifT (c := (!v20007)) hb22 h
          try simp only [go_sem]
          replace h := Option.some.inj h
          obtain rfl := h
          simp only [go_sem]
        · replace h := ifF (c := (!v20007)) hb22 h
          try simp only [go_sem]
          refine seq_go ?_
          try simp only [go_sem]
          have hj := posF_to rfl rfl (ih0 a0 (IntKind.i64.wrap (p2_0 + 1)) _ h)
          refine lp_to hj (.one ⟨_, .done _, [], [], ?_⟩)
          clear hj
          try simp only [go_sem]
      · replace h := ifF (c := (decide (p2_0 < ((List.length a0.data : Nat) : Int)))) hb21 h
        try simp only [go_sem]
        refine seq_go ?_
        try simp only [go_sem]
        replace h := Option.some.inj h
        obtain rfl := h
        simp only [go_sem]
theorem s_l11Content_l3_ok (n : Nat) : (∀ (a0 : Agent) (p2_0 : Int) (r : Bool), s_l11Content_l3 n a0 p2_0 = some r → posF Try.prog Try.f174 [1, 0, 1, 0, 1, 1, 1, 1, 1, 1, 1, 1, 1, 1, 1, 0, 1, 0, 1, 0] (.bool r) ⟨[(0, .rop [.int .i64 a0.kind, .int .i64 a0.level, .int .i64 a0.value, .ro (List.map i64D a0.data), .ro (List.map Port.ds a0.ports)] 0), (3, .int .i64 p2_0)], [], []⟩) := (s_l11Content_l3_all n)

theorem s_l11Content_j2_ok (a0 : Agent) (p1_0 : Bool) (r : Bool) (h : s_l11Content_j2 a0 p1_0 = some r) : posF Try.prog Try.f174 [1, 0, 1, 0, 1, 1, 1, 1, 1, 1, 1, 1, 1, 1, 1, 0, 0, 1] (.bool r) ⟨[(0, .rop [.int .i64 a0.kind, .int .i64 a0.level, .int .i64 a0.value, .ro (List.map i64D a0.data), .ro (List.map Port.ds a0.ports)] 0), (130, .bool p1_0)], [], []⟩ := by
  unfold s_l11Content_j2 at h
  refine posF_of rfl rfl ?_
  try simp only [go_sem]
  refine cond_i (fun hb20 => ?_) (fun hb20 => ?_)
  · replace h := ifT (c := p1_0) hb20 h
    try simp only [go_sem]
    replace h := Option.some.inj h
    obtain rfl := h
    simp only [go_sem]
  · replace h := ifF (c := p1_0) hb20 h
    try simp only [go_sem]
    refine seq_go ?_
    try simp only [go_sem]
    have hj := posF_to rfl rfl (s_l11Content_l3_ok fuel a0 0 _ h)
    refine loop_to hj (.one ⟨_, .done _, [], [], ?_⟩)
    clear hj
    try simp only [go_sem]
theorem s_l11Content_j1_ok (a0 : Agent) (p0_0 : Bool) (r : Bool) (h : s_l11Content_j1 a0 p0_0 = some r) : posF Try.prog Try.f174 [1, 0, 1, 0, 1, 1, 1, 1, 1, 1, 1, 1, 1, 1, 1] (.bool r) ⟨[(0, .rop [.int .i64 a0.kind, .int .i64 a0.level, .int .i64 a0.value, .ro (List.map i64D a0.data), .ro (List.map Port.ds a0.ports)] 0), (92, .bool p0_0)], [], []⟩ := by
  unfold s_l11Content_j1 at h
  refine posF_of rfl rfl ?_
  try simp only [go_sem]
  refine cond_i (fun hb13 => ?_) (fun hb13 => ?_)
  · replace h := ifT (c := p0_0) hb13 h
    try simp only [go_sem]
    refine cond_i (fun hb14 => ?_) (fun hb14 => ?_)
    · replace h := ifT (c := (!decide (a0.value = 0))) hb14 h
      try simp only [go_sem]
      have hj := posF_to rfl rfl (s_l11Content_j2_ok a0 true _ h)
      refine seq_to hj (.one ⟨_, .done _, [], [], ?_⟩)
      clear hj
      try simp only [go_sem]
    · replace h := ifF (c := (!decide (a0.value = 0))) hb14 h
      try simp only [go_sem]
      refine cond_i (fun hb15 => ?_) (fun hb15 => ?_)
      · replace h := ifT (c := (decide (a0.kind = 11))) hb15 h
        try simp only [go_sem]
        refine cond_i (fun hb16 => ?_) (fun hb16 => ?_)
        · replace h := ifT (c := (!decide (((List.length a0.data : Nat) : Int) = 2))) hb16 h
          try simp only [go_sem]
          have hj := posF_to rfl rfl (s_l11Content_j2_ok a0 true _ h)
          refine seq_to hj (.one ⟨_, .done _, [], [], ?_⟩)
          clear hj
          try simp only [go_sem]
        · replace h := ifF (c := (!decide (((List.length a0.data : Nat) : Int) = 2))) hb16 h
          try simp only [go_sem]
          refine cond_i (fun hb17 => ?_) (fun hb17 => ?_)
          · replace h := ifT (c := (decide (a0.kind = 10))) hb17 h
            try simp only [go_sem]
            replace h := bindE h
            obtain ⟨v15032, hv15032, h⟩ := h
            refine call_i (s_l00In_ok _ _ _ _ hv15032) ?_
            try simp only [go_sem]
            have hj := posF_to rfl rfl (s_l11Content_j2_ok a0 (!v15032) _ h)
            refine seq_to hj (.one ⟨_, .done _, [], [], ?_⟩)
            clear hj
            try simp only [go_sem]
          · replace h := ifF (c := (decide (a0.kind = 10))) hb17 h
            try simp only [go_sem]
            have hj := posF_to rfl rfl (s_l11Content_j2_ok a0 false _ h)
            refine seq_to hj (.one ⟨_, .done _, [], [], ?_⟩)
            clear hj
            try simp only [go_sem]
      · replace h := ifF (c := (decide (a0.kind = 11))) hb15 h
        try simp only [go_sem]
        refine cond_i (fun hb18 => ?_) (fun hb18 => ?_)
        · replace h := ifT (c := (decide (a0.kind = 10))) hb18 h
          try simp only [go_sem]
          replace h := bindE h
          obtain ⟨v15032, hv15032, h⟩ := h
          refine call_i (s_l00In_ok _ _ _ _ hv15032) ?_
          try simp only [go_sem]
          have hj := posF_to rfl rfl (s_l11Content_j2_ok a0 (!v15032) _ h)
          refine seq_to hj (.one ⟨_, .done _, [], [], ?_⟩)
          clear hj
          try simp only [go_sem]
        · replace h := ifF (c := (decide (a0.kind = 10))) hb18 h
          try simp only [go_sem]
          have hj := posF_to rfl rfl (s_l11Content_j2_ok a0 false _ h)
          refine seq_to hj (.one ⟨_, .done _, [], [], ?_⟩)
          clear hj
          try simp only [go_sem]
  · replace h := ifF (c := p0_0) hb13 h
    try simp only [go_sem]
    refine seq_go ?_
    try simp only [go_sem]
    refine cond_i (fun hb19 => ?_) (fun hb19 => ?_)
    · replace h := ifT (c := (decide (a0.value = 0))) hb19 h
      try simp only [go_sem]
      refine seq_go ?_
      try simp only [go_sem]
      replace h := Option.some.inj h
      obtain rfl := h
      simp only [go_sem]
    · replace h := ifF (c := (decide (a0.value = 0))) hb19 h
      try simp only [go_sem]
      refine seq_go ?_
      try simp only [go_sem]
      replace h := Option.some.inj h
      obtain rfl := h
      simp only [go_sem]
theorem s_l11Content_ok (a0 : Agent) (r : Bool) (h : s_l11Content a0 = some r) : AC Try.prog 174 [.rop (Agent.avs a0) 0] (.bool r) := by
  unfold s_l11Content at h
  refine ac_fn mixed Try.func174 rfl rfl rfl (by kernel_rfl) (by kernel_rfl) ?_
  try simp only [go_sem]
  refine cond_i (fun hb1 => ?_) (fun hb1 => ?_)
  · replace h := ifT (c := (decide (a0.kind = 6))) hb1 h
    try simp only [go_sem]
    refine cond_i (fun hb2 => ?_) (fun hb2 => ?_)
    · replace h := ifT (c := (decide (((List.length a0.data : Nat) : Int) = 0))) hb2 h
      try simp only [go_sem]
      replace h := bindE h
      obtain ⟨v4011, hv4011, h⟩ := h
      refine call_i (s_l00In_ok _ _ _ _ hv4011) ?_
      try simp only [go_sem]
      refine seq_go ?_
      try simp only [go_sem]
      replace h := Option.some.inj h
      obtain rfl := h
      simp only [go_sem]
    · replace h := ifF (c := (decide (((List.length a0.data : Nat) : Int) = 0))) hb2 h
      try simp only [go_sem]
      refine seq_go ?_
      try simp only [go_sem]
      replace h := Option.some.inj h
      obtain rfl := h
      simp only [go_sem]
  · replace h := ifF (c := (decide (a0.kind = 6))) hb1 h
    try simp only [go_sem]
    refine cond_i (fun hb3 => ?_) (fun hb3 => ?_)
    · replace h := ifT (c := (decide (a0.kind = 7))) hb3 h
      try simp only [go_sem]
      refine cond_i (fun hb4 => ?_) (fun hb4 => ?_)
      · replace h := ifT (c := (decide (((List.length a0.data : Nat) : Int) = 0))) hb4 h
        try simp only [go_sem]
        replace h := bindE h
        obtain ⟨v6011, hv6011, h⟩ := h
        refine call_i (s_l00In_ok _ _ _ _ hv6011) ?_
        try simp only [go_sem]
        refine seq_go ?_
        try simp only [go_sem]
        replace h := Option.some.inj h
        obtain rfl := h
        simp only [go_sem]
      · replace h := ifF (c := (decide (((List.length a0.data : Nat) : Int) = 0))) hb4 h
        try simp only [go_sem]
        refine seq_go ?_
        try simp only [go_sem]
        replace h := Option.some.inj h
        obtain rfl := h
        simp only [go_sem]
    · replace h := ifF (c := (decide (a0.kind = 7))) hb3 h
      try simp only [go_sem]
      refine cond_i (fun hb5 => ?_) (fun hb5 => ?_)
      · replace h := ifT (c := (decide (a0.kind = 8))) hb5 h
        try simp only [go_sem]
        refine cond_i (fun hb6 => ?_) (fun hb6 => ?_)
        · replace h := ifT (c := (decide (((List.length a0.data : Nat) : Int) = 1))) hb6 h
          try simp only [go_sem]
          replace h := bindE h
          obtain ⟨v8011, hv8011, h⟩ := h
          refine call_i (s_l00In_ok _ _ _ _ hv8011) ?_
          try simp only [go_sem]
          refine cond_i (fun hb7 => ?_) (fun hb7 => ?_)
          · replace h := ifT (c := v8011) hb7 h
            try simp only [go_sem]
            replace h := bindE h
            obtain ⟨v8018, hv8018, h⟩ := h
            refine idx_m hv8018 rfl ?_
            try simp only [go_sem]
            replace h := bindE h
            obtain ⟨v8020, hv8020, h⟩ := h
            refine call_i (s_l00In_ok _ _ _ _ hv8020) ?_
            try simp only [go_sem]
            refine seq_go ?_
            try simp only [go_sem]
            replace h := Option.some.inj h
            obtain rfl := h
            simp only [go_sem]
          · replace h := ifF (c := v8011) hb7 h
            try simp only [go_sem]
            refine seq_go ?_
            try simp only [go_sem]
            replace h := Option.some.inj h
            obtain rfl := h
            simp only [go_sem]
        · replace h := ifF (c := (decide (((List.length a0.data : Nat) : Int) = 1))) hb6 h
          try simp only [go_sem]
          refine seq_go ?_
          try simp only [go_sem]
          replace h := Option.some.inj h
          obtain rfl := h
          simp only [go_sem]
      · replace h := ifF (c := (decide (a0.kind = 8))) hb5 h
        try simp only [go_sem]
        refine cond_i (fun hb8 => ?_) (fun hb8 => ?_)
        · replace h := ifT (c := (decide (a0.kind = 9))) hb8 h
          try simp only [go_sem]
          refine cond_i (fun hb9 => ?_) (fun hb9 => ?_)
          · replace h := ifT (c := (decide (((List.length a0.data : Nat) : Int) = 0))) hb9 h
            try simp only [go_sem]
            replace h := bindE h
            obtain ⟨v10011, hv10011, h⟩ := h
            refine call_i (s_l00In_ok _ _ _ _ hv10011) ?_
            try simp only [go_sem]
            refine seq_go ?_
            try simp only [go_sem]
            replace h := Option.some.inj h
            obtain rfl := h
            simp only [go_sem]
          · replace h := ifF (c := (decide (((List.length a0.data : Nat) : Int) = 0))) hb9 h
            try simp only [go_sem]
            refine seq_go ?_
            try simp only [go_sem]
            replace h := Option.some.inj h
            obtain rfl := h
            simp only [go_sem]
        · replace h := ifF (c := (decide (a0.kind = 9))) hb8 h
          try simp only [go_sem]
          refine cond_i (fun hb10 => ?_) (fun hb10 => ?_)
          · replace h := ifT (c := (decide (a0.kind = 12))) hb10 h
            try simp only [go_sem]
            refine cond_i (fun hb11 => ?_) (fun hb11 => ?_)
            · replace h := ifT (c := (decide (((List.length a0.data : Nat) : Int) = 0))) hb11 h
              try simp only [go_sem]
              replace h := bindE h
              obtain ⟨v12011, hv12011, h⟩ := h
              refine call_i (s_l11Def_ok _ _ hv12011) ?_
              try simp only [go_sem]
              refine seq_go ?_
              try simp only [go_sem]
              replace h := Option.some.inj h
              obtain rfl := h
              simp only [go_sem]
            · replace h := ifF (c := (decide (((List.length a0.data : Nat) : Int) = 0))) hb11 h
              try simp only [go_sem]
              refine seq_go ?_
              try simp only [go_sem]
              replace h := Option.some.inj h
              obtain rfl := h
              simp only [go_sem]
          · replace h := ifF (c := (decide (a0.kind = 12))) hb10 h
            try simp only [go_sem]
            refine cond_i (fun hb12 => ?_) (fun hb12 => ?_)
            · replace h := ifT (c := (decide (a0.kind = 10))) hb12 h
              try simp only [go_sem]
              have hj := posF_to rfl rfl (s_l11Content_j1_ok a0 (decide (a0.kind = 10)) _ h)
              refine seq_to hj (.one ⟨_, .done _, [], [], ?_⟩)
              clear hj
              try simp only [go_sem]
            · replace h := ifF (c := (decide (a0.kind = 10))) hb12 h
              try simp only [go_sem]
              have hj := posF_to rfl rfl (s_l11Content_j1_ok a0 (decide (a0.kind = 11)) _ h)
              refine seq_to hj (.one ⟨_, .done _, [], [], ?_⟩)
              clear hj
              try simp only [go_sem]
theorem s_l11Agent_ok (a0 : Agent) (r : Bool) (h : s_l11Agent a0 = some r) : AC Try.prog 150 [.rop (Agent.avs a0) 0] (.bool r) := by
  unfold s_l11Agent at h
  refine ac_fn mixed Try.func150 rfl rfl rfl (by kernel_rfl) (by kernel_rfl) ?_
  try simp only [go_sem]
  refine draw_i [] .fin (by kernel_rfl) ?_
  try simp only [go_sem]
  replace h := bindE h
  obtain ⟨v2005, hv2005, h⟩ := h
  refine call_i (s_l11Fields_ok _ _ hv2005) ?_
  try simp only [go_sem]
  replace h := bindE h
  obtain ⟨v2006, hv2006, h⟩ := h
  refine call_i (s_PortsOf_ok _ _ _ hv2006) ?_
  try simp only [go_sem]
  refine seq_go ?_
  try simp only [go_sem]
  refine draw_i [] .fin (by kernel_rfl) ?_
  try simp only [go_sem]
  refine cond_i (fun hb1 => ?_) (fun hb1 => ?_)
  · replace h := ifT (c := (decide (0 < v2006))) hb1 h
    try simp only [go_sem]
    refine cond_i (fun hb2 => ?_) (fun hb2 => ?_)
    · replace h := ifT (c := (decide (((List.length a0.ports : Nat) : Int) = v2006))) hb2 h
      try simp only [go_sem]
      replace h := bindE h
      obtain ⟨v3020, hv3020, h⟩ := h
      refine call_i (s_l10Level_ok _ _ _ hv3020) ?_
      try simp only [go_sem]
      refine cond_i (fun hb3 => ?_) (fun hb3 => ?_)
      · replace h := ifT (c := v3020) hb3 h
        try simp only [go_sem]
        replace h := bindE h
        obtain ⟨v3024, hv3024, h⟩ := h
        refine call_i (s_l11Content_ok _ _ hv3024) ?_
        try simp only [go_sem]
        refine seq_go ?_
        try simp only [go_sem]
        replace h := Option.some.inj h
        obtain rfl := h
        simp only [go_sem]
      · replace h := ifF (c := v3020) hb3 h
        try simp only [go_sem]
        refine seq_go ?_
        try simp only [go_sem]
        replace h := Option.some.inj h
        obtain rfl := h
        simp only [go_sem]
    · replace h := ifF (c := (decide (((List.length a0.ports : Nat) : Int) = v2006))) hb2 h
      try simp only [go_sem]
      refine seq_go ?_
      try simp only [go_sem]
      replace h := Option.some.inj h
      obtain rfl := h
      simp only [go_sem]
  · replace h := ifF (c := (decide (0 < v2006))) hb1 h
    try simp only [go_sem]
    refine seq_go ?_
    try simp only [go_sem]
    replace h := Option.some.inj h
    obtain rfl := h
    simp only [go_sem]
theorem s_l11Agents_l3_all (n : Nat) : (∀ (a0 : List Agent) (p0_0 : Int) (r : Bool), s_l11Agents_l3 n a0 p0_0 = some r → posF Try.prog Try.f89 [1, 1, 0, 1, 0] (.bool r) ⟨[(0, .ro (List.map Agent.ds a0)), (3, .int .i64 p0_0)], [], []⟩) ∧
    (∀ (a0 : List Agent) (p0_0 : Int) (p1_0 : Bool) (r : Bool), s_l11Agents_j4 n a0 p0_0 p1_0 = some r → posF Try.prog Try.f89 [1, 1, 0, 1, 0, 0, 1, 0, 0, 1] (.bool r) ⟨[(0, .ro (List.map Agent.ds a0)), (3, .int .i64 p0_0), (29, .bool p1_0)], [], []⟩) := by
  induction n with
  | zero => exact ⟨(fun _ _ _ h => by rw [s_l11Agents_l3] at h; cases h), (fun _ _ _ _ h => by rw [s_l11Agents_j4] at h; cases h)⟩
  | succ n ih =>
    obtain ⟨ih0, ih1⟩ := ih
    refine ⟨?_, ?_⟩
    · intro a0 p0_0 r h
      rw [s_l11Agents_l3] at h
      refine posF_of rfl rfl ?_
      try simp only [go_sem]
      refine loop_i ?_
      try simp only [go_sem]
      refine cond_i (fun hb2 => ?_) (fun hb2 => ?_)
      · replace h := ifT (c := (decide (p0_0 < ((List.length a0 : Nat) : Int)))) hb2 h
        try simp only [go_sem]
        refine seq_go ?_
        try simp only [go_sem]
        replace h := bindE h
        obtain ⟨v7002, hv7002, h⟩ := h
        refine idx_m hv7002 (Agent.ds_len _) ?_
        try simp only [go_sem]
        replace h := bindE h
        obtain ⟨v7003, hv7003, h⟩ := h
        refine call_i (s_l11Agent_ok _ _ hv7003) ?_
        try simp only [go_sem]
        refine cond_i (fun hb3 => ?_) (fun hb3 => ?_)
        · replace h := ifT (c := (!v7003)) hb3 h
          try simp only [go_sem]
          have hj := posF_to rfl rfl (ih1 a0 p0_0 true _ h)
          refine seq_to hj (.one ⟨_, .done _, [], [], ?_⟩)
          clear hj
          try simp only [go_sem]
        · replace h := ifF (c := (!v7003)) hb3 h
          try simp only [go_sem]
          replace h := bindE h
          obtain ⟨v7008, hv7008, h⟩ := h
          refine idx_m hv7008 (Agent.ds_len _) ?_
          try simp only [go_sem]
          have hj := posF_to rfl rfl (ih1 a0 p0_0 (!((decide (v7008.kind = 1)) == (decide (p0_0 = 0)))) _ h)
          refine seq_to hj (.one ⟨_, .done _, [], [], ?_⟩)
          clear hj
          try simp only [go_sem]
      · replace h := ifF (c := (decide (p0_0 < ((List.length a0 : Nat) : Int)))) hb2 h
        try simp only [go_sem]
        refine seq_go ?_
        try simp only [go_sem]
        replace h := Option.some.inj h
        obtain rfl := h
        simp only [go_sem]
    · intro a0 p0_0 p1_0 r h
      rw [s_l11Agents_j4] at h
      refine posF_of rfl rfl ?_
      try simp only [go_sem]
      refine cond_i (fun hb4 => ?_) (fun hb4 => ?_)
      · replace h := ifT (c := p1_0) hb4 h
        try simp only [go_sem]
        replace h := Option.some.inj h
        obtain rfl := h
        simp only [go_sem]
      · replace h := ifF (c := p1_0) hb4 h
        try simp only [go_sem]
        refine seq_go ?_
        try simp only [go_sem]
        have hj := posF_to rfl rfl (ih0 a0 (IntKind.i64.wrap (p0_0 + 1)) _ h)
        refine lp_to hj (.one ⟨_, .done _, [], [], ?_⟩)
        clear hj
        try simp only [go_sem]
theorem s_l11Agents_l3_ok (n : Nat) : (∀ (a0 : List Agent) (p0_0 : Int) (r : Bool), s_l11Agents_l3 n a0 p0_0 = some r → posF Try.prog Try.f89 [1, 1, 0, 1, 0] (.bool r) ⟨[(0, .ro (List.map Agent.ds a0)), (3, .int .i64 p0_0)], [], []⟩) := (s_l11Agents_l3_all n).1
theorem s_l11Agents_j4_ok (n : Nat) : (∀ (a0 : List Agent) (p0_0 : Int) (p1_0 : Bool) (r : Bool), s_l11Agents_j4 n a0 p0_0 p1_0 = some r → posF Try.prog Try.f89 [1, 1, 0, 1, 0, 0, 1, 0, 0, 1] (.bool r) ⟨[(0, .ro (List.map Agent.ds a0)), (3, .int .i64 p0_0), (29, .bool p1_0)], [], []⟩) := (s_l11Agents_l3_all n).2

theorem s_l11Agents_ok (a0 : List Agent) (r : Bool) (h : s_l11Agents a0 = some r) : AC Try.prog 89 [.ro (List.map Agent.ds a0)] (.bool r) := by
  unfold s_l11Agents at h
  refine ac_fn mixed Try.func89 rfl rfl rfl (by kernel_rfl) (by kernel_rfl) ?_
  try simp only [go_sem]
  replace h := bindE h
  obtain ⟨v2002, hv2002, h⟩ := h
  refine call_i (s_l00In_ok _ _ _ _ hv2002) ?_
  try simp only [go_sem]
  refine cond_i (fun hb1 => ?_) (fun hb1 => ?_)
  · replace h := ifT (c := (!v2002)) hb1 h
    try simp only [go_sem]
    replace h := Option.some.inj h
    obtain rfl := h
    simp only [go_sem]
  · replace h := ifF (c := (!v2002)) hb1 h
    try simp only [go_sem]
    refine seq_go ?_
    try simp only [go_sem]
    have hj := posF_to rfl rfl (s_l11Agents_l3_ok fuel a0 0 _ h)
    refine loop_to hj (.one ⟨_, .done _, [], [], ?_⟩)
    clear hj
    try simp only [go_sem]
theorem s_l11Port_ok (a0 : List Agent) (a1 : Port) (r : Bool) (h : s_l11Port a0 a1 = some r) : AC Try.prog 90 [.ro (List.map Agent.ds a0), .agg (Port.avs a1)] (.bool r) := by
  unfold s_l11Port at h
  refine ac_fn mixed Try.func90 rfl rfl rfl (by kernel_rfl) (by kernel_rfl) ?_
  try simp only [go_sem]
  refine draw_i [] .fin (by kernel_rfl) ?_
  try simp only [go_sem]
  replace h := bindE h
  obtain ⟨v2005, hv2005, h⟩ := h
  refine call_i (s_l00In_ok _ _ _ _ hv2005) ?_
  try simp only [go_sem]
  refine cond_i (fun hb1 => ?_) (fun hb1 => ?_)
  · replace h := ifT (c := v2005) hb1 h
    try simp only [go_sem]
    replace h := bindE h
    obtain ⟨v2012, hv2012, h⟩ := h
    refine idx_m hv2012 (Agent.ds_len _) ?_
    try simp only [go_sem]
    replace h := bindE h
    obtain ⟨v2017, hv2017, h⟩ := h
    refine call_i (s_l00In_ok _ _ _ _ hv2017) ?_
    try simp only [go_sem]
    refine seq_go ?_
    try simp only [go_sem]
    replace h := Option.some.inj h
    obtain rfl := h
    simp only [go_sem]
  · replace h := ifF (c := v2005) hb1 h
    try simp only [go_sem]
    refine seq_go ?_
    try simp only [go_sem]
    replace h := Option.some.inj h
    obtain rfl := h
    simp only [go_sem]
theorem s_l11Ok_l9_all (n : Nat) : (∀ (a0 : Net) (p0_0 : Int) (r : Bool), s_l11Ok_l9 n a0 p0_0 = some r → posF Try.prog Try.f44 [1, 1, 0, 1, 0] (.bool r) ⟨[(0, .rop [.ro (List.map Agent.ds a0.agents)] 0), (3, .int .i64 p0_0)], [], []⟩) ∧
    (∀ (a0 : Net) (p0_0 : Int) (v7005 : Agent) (p1_0 : Int) (r : Bool), s_l11Ok_l12 n a0 p0_0 v7005 p1_0 = some r → posF Try.prog Try.f44 [1, 1, 0, 1, 0, 0, 1, 0, 0, 1, 1, 0] (.bool r) ⟨[(0, .rop [.ro (List.map Agent.ds a0.agents)] 0), (3, .int .i64 p0_0), (4, .rop [.int .i64 v7005.kind, .int .i64 v7005.level, .int .i64 v7005.value, .ro (List.map i64D v7005.data), .ro (List.map Port.ds v7005.ports)] 0), (5, .int .i64 p1_0)], [], []⟩) ∧
    (∀ (a0 : Net) (p0_0 : Int) (p1_0 : Int) (v7005 : Agent) (p2_0 : Bool) (r : Bool), s_l11Ok_j13 n a0 p0_0 p1_0 v7005 p2_0 = some r → posF Try.prog Try.f44 [1, 1, 0, 1, 0, 0, 1, 0, 0, 1, 1, 0, 0, 1, 0, 0, 1, 1, 1] (.bool r) ⟨[(0, .rop [.ro (List.map Agent.ds a0.agents)] 0), (3, .int .i64 p0_0), (4, .rop [.int .i64 v7005.kind, .int .i64 v7005.level, .int .i64 v7005.value, .ro (List.map i64D v7005.data), .ro (List.map Port.ds v7005.ports)] 0), (5, .int .i64 p1_0), (76, .bool p2_0)], [], []⟩) := by
  induction n with
  | zero => exact ⟨(fun _ _ _ h => by rw [s_l11Ok_l9] at h; cases h), (fun _ _ _ _ _ h => by rw [s_l11Ok_l12] at h; cases h), (fun _ _ _ _ _ _ h => by rw [s_l11Ok_j13] at h; cases h)⟩
  | succ n ih =>
    obtain ⟨ih0, ih1, ih2⟩ := ih
    refine ⟨?_, ?_, ?_⟩
    · intro a0 p0_0 r h
      rw [s_l11Ok_l9] at h
      refine posF_of rfl rfl ?_
      try simp only [go_sem]
      refine loop_i ?_
      try simp only [go_sem]
      refine cond_i (fun hb2 => ?_) (fun hb2 => ?_)
      · replace h := ifT (c := (decide (p0_0 < ((List.length a0.agents : Nat) : Int)))) hb2 h
        try simp only [go_sem]
        refine seq_go ?_
        try simp only [go_sem]
        replace h := bindE h
        obtain ⟨v7005, hv7005, h⟩ := h
        refine idx_m hv7005 (Agent.ds_len _) ?_
        try simp only [go_sem]
        have hj := posF_to rfl rfl (ih1 a0 p0_0 v7005 0 _ h)
        refine loop_to hj (.one ⟨_, .done _, [], [], ?_⟩)
        clear hj
        try simp only [go_sem]
      · replace h := ifF (c := (decide (p0_0 < ((List.length a0.agents : Nat) : Int)))) hb2 h
        try simp only [go_sem]
        refine seq_go ?_
        try simp only [go_sem]
        replace h := Option.some.inj h
        obtain rfl := h
        simp only [go_sem]
    · intro a0 p0_0 v7005 p1_0 r h
      rw [s_l11Ok_l12] at h
      refine posF_of rfl rfl ?_
      try simp only [go_sem]
      refine loop_i ?_
      try simp only [go_sem]
      refine cond_i (fun hb3 => ?_) (fun hb3 => ?_)
      · replace h := ifT (c := (decide (p1_0 < ((List.length v7005.ports : Nat) : Int)))) hb3 h
        try simp only [go_sem]
        refine seq_go ?_
        try simp only [go_sem]
        replace h := bindE h
        obtain ⟨v12005, hv12005, h⟩ := h
        refine idx_m hv12005 (Port.ds_len _) ?_
        try simp only [go_sem]
        refine draw_i [] .fin (by kernel_rfl) ?_
        try simp only [go_sem]
        refine cond_i (fun hb4 => ?_) (fun hb4 => ?_)
        · replace h := ifT (c := (decide (v12005.agent = p0_0) && decide (v12005.slot = p1_0))) hb4 h
          try simp only [go_sem]
          have hj := posF_to rfl rfl (ih2 a0 p0_0 p1_0 v7005 true _ h)
          refine seq_to hj (.one ⟨_, .done _, [], [], ?_⟩)
          clear hj
          try simp only [go_sem]
        · replace h := ifF (c := (decide (v12005.agent = p0_0) && decide (v12005.slot = p1_0))) hb4 h
          try simp only [go_sem]
          replace h := bindE h
          obtain ⟨v13009, hv13009, h⟩ := h
          refine call_i (s_l11Port_ok _ _ _ hv13009) ?_
          try simp only [go_sem]
          refine cond_i (fun hb5 => ?_) (fun hb5 => ?_)
          · replace h := ifT (c := (!v13009)) hb5 h
            try simp only [go_sem]
            have hj := posF_to rfl rfl (ih2 a0 p0_0 p1_0 v7005 true _ h)
            refine seq_to hj (.one ⟨_, .done _, [], [], ?_⟩)
            clear hj
            try simp only [go_sem]
          · replace h := ifF (c := (!v13009)) hb5 h
            try simp only [go_sem]
            replace h := bindE h
            obtain ⟨v13019, hv13019, h⟩ := h
            refine idx_m hv13019 (Agent.ds_len _) ?_
            try simp only [go_sem]
            replace h := bindE h
            obtain ⟨v13024, hv13024, h⟩ := h
            refine idx_m hv13024 (Port.ds_len _) ?_
            try simp only [go_sem]
            have hj := posF_to rfl rfl (ih2 a0 p0_0 p1_0 v7005 (!(decide (v13024.agent = p0_0) && decide (v13024.slot = p1_0))) _ h)
            refine seq_to hj (.one ⟨_, .done _, [], [], ?_⟩)
            clear hj
            try simp only [go_sem]
      · replace h := ifF (c := (decide (p1_0 < ((List.length v7005.ports : Nat) : Int)))) hb3 h
        try simp only [go_sem]
        refine seq_go ?_
        try simp only [go_sem]
        have hj := posF_to rfl rfl (ih0 a0 (IntKind.i64.wrap (p0_0 + 1)) _ h)
        refine lp_to hj (.one ⟨_, .done _, [], [], ?_⟩)
        clear hj
        try simp only [go_sem]
    · intro a0 p0_0 p1_0 v7005 p2_0 r h
      rw [s_l11Ok_j13] at h
      refine posF_of rfl rfl ?_
      try simp only [go_sem]
      refine cond_i (fun hb6 => ?_) (fun hb6 => ?_)
      · replace h := ifT (c := p2_0) hb6 h
        try simp only [go_sem]
        replace h := Option.some.inj h
        obtain rfl := h
        simp only [go_sem]
      · replace h := ifF (c := p2_0) hb6 h
        try simp only [go_sem]
        refine seq_go ?_
        try simp only [go_sem]
        have hj := posF_to rfl rfl (ih1 a0 p0_0 v7005 (IntKind.i64.wrap (p1_0 + 1)) _ h)
        refine lp_to hj (.one ⟨_, .done _, [], [], ?_⟩)
        clear hj
        try simp only [go_sem]
theorem s_l11Ok_l9_ok (n : Nat) : (∀ (a0 : Net) (p0_0 : Int) (r : Bool), s_l11Ok_l9 n a0 p0_0 = some r → posF Try.prog Try.f44 [1, 1, 0, 1, 0] (.bool r) ⟨[(0, .rop [.ro (List.map Agent.ds a0.agents)] 0), (3, .int .i64 p0_0)], [], []⟩) := (s_l11Ok_l9_all n).1
theorem s_l11Ok_l12_ok (n : Nat) : (∀ (a0 : Net) (p0_0 : Int) (v7005 : Agent) (p1_0 : Int) (r : Bool), s_l11Ok_l12 n a0 p0_0 v7005 p1_0 = some r → posF Try.prog Try.f44 [1, 1, 0, 1, 0, 0, 1, 0, 0, 1, 1, 0] (.bool r) ⟨[(0, .rop [.ro (List.map Agent.ds a0.agents)] 0), (3, .int .i64 p0_0), (4, .rop [.int .i64 v7005.kind, .int .i64 v7005.level, .int .i64 v7005.value, .ro (List.map i64D v7005.data), .ro (List.map Port.ds v7005.ports)] 0), (5, .int .i64 p1_0)], [], []⟩) := (s_l11Ok_l9_all n).2.1
theorem s_l11Ok_j13_ok (n : Nat) : (∀ (a0 : Net) (p0_0 : Int) (p1_0 : Int) (v7005 : Agent) (p2_0 : Bool) (r : Bool), s_l11Ok_j13 n a0 p0_0 p1_0 v7005 p2_0 = some r → posF Try.prog Try.f44 [1, 1, 0, 1, 0, 0, 1, 0, 0, 1, 1, 0, 0, 1, 0, 0, 1, 1, 1] (.bool r) ⟨[(0, .rop [.ro (List.map Agent.ds a0.agents)] 0), (3, .int .i64 p0_0), (4, .rop [.int .i64 v7005.kind, .int .i64 v7005.level, .int .i64 v7005.value, .ro (List.map i64D v7005.data), .ro (List.map Port.ds v7005.ports)] 0), (5, .int .i64 p1_0), (76, .bool p2_0)], [], []⟩) := (s_l11Ok_l9_all n).2.2

theorem s_l11Ok_ok (a0 : Net) (r : Bool) (h : s_l11Ok a0 = some r) : AC Try.prog 44 [.rop (Net.avs a0) 0] (.bool r) := by
  unfold s_l11Ok at h
  refine ac_fn mixed Try.func44 rfl rfl rfl (by kernel_rfl) (by kernel_rfl) ?_
  try simp only [go_sem]
  replace h := bindE h
  obtain ⟨v2004, hv2004, h⟩ := h
  refine call_i (s_l11Agents_ok _ _ hv2004) ?_
  try simp only [go_sem]
  refine cond_i (fun hb1 => ?_) (fun hb1 => ?_)
  · replace h := ifT (c := (!v2004)) hb1 h
    try simp only [go_sem]
    replace h := Option.some.inj h
    obtain rfl := h
    simp only [go_sem]
  · replace h := ifF (c := (!v2004)) hb1 h
    try simp only [go_sem]
    refine seq_go ?_
    try simp only [go_sem]
    have hj := posF_to rfl rfl (s_l11Ok_l9_ok fuel a0 0 _ h)
    refine loop_to hj (.one ⟨_, .done _, [], [], ?_⟩)
    clear hj
    try simp only [go_sem]
theorem g_IndexFunc_sint64_l1_all (n : Nat) : (∀ (a0 : List Int) (p0_0 : Int) (f1 : (Int → Option Bool)) (g1 : FuncId) (c1 : List AV) (s1 : Still c1) (h1 : ∀ (y0 : Int) (q : Bool), f1 y0 = some q → AC Try.prog g1 (.int .i64 y0 :: c1) (.bool q)) (r : Int), g_IndexFunc_sint64_l1 n a0 p0_0 f1 = some r → posF Try.prog Try.f168 [1, 0, 1, 0] (.int .i64 r) ⟨[(0, .ro (List.map i64D a0)), (1, .fn g1 c1), (7, .int .i64 ((List.length a0 : Nat) : Int)), (8, .int .i64 p0_0)], [], []⟩) := by
  induction n with
  | zero => exact ((fun _ _ _ _ _ _ _ _ h => by rw [g_IndexFunc_sint64_l1] at h; cases h))
  | succ n ih =>
    have ih0 := ih
    · intro a0 p0_0 f1 g1 c1 s1 h1 r h
      rw [g_IndexFunc_sint64_l1] at h
      refine posF_of rfl rfl ?_
      try simp only [go_sem, s1.k, s1.r, s1.c, s1.p]
      refine loop_i ?_
      try simp only [go_sem, s1.k, s1.r, s1.c, s1.p]
      refine cond_i (fun hb1 => ?_) (fun hb1 => ?_)
      · replace h := ifT (c := (decide (p0_0 < ((List.length a0 : Nat) : Int)))) hb1 h
        try simp only [go_sem, s1.k, s1.r, s1.c, s1.p]
        refine seq_go ?_
        try simp only [go_sem, s1.k, s1.r, s1.c, s1.p]
        replace h := bindE h
        obtain ⟨v5003, hv5003, h⟩ := h
        refine idx_m hv5003 rfl ?_
        try simp only [go_sem, s1.k, s1.r, s1.c, s1.p]
        replace h := bindE h
        obtain ⟨v5005, hv5005, h⟩ := h
        refine call_i (h1 _ _ hv5005) ?_
        try simp only [go_sem, s1.k, s1.r, s1.c, s1.p]
        refine cond_i (fun hb2 => ?_) (fun hb2 => ?_)
        · replace h := ifT (c := v5005) hb2 h
          try simp only [go_sem, s1.k, s1.r, s1.c, s1.p]
          replace h := Option.some.inj h
          obtain rfl := h
          simp only [go_sem, s1.k, s1.r, s1.c, s1.p]
        · replace h := ifF (c := v5005) hb2 h
          try simp only [go_sem, s1.k, s1.r, s1.c, s1.p]
          refine seq_go ?_
          try simp only [go_sem, s1.k, s1.r, s1.c, s1.p]
          have hj := posF_to rfl rfl (ih0 a0 (IntKind.i64.wrap (p0_0 + 1)) f1 g1 c1 s1 h1 _ h)
          refine lp_to hj (.one ⟨_, .done _, [], [], ?_⟩)
          clear hj
          try simp only [go_sem, s1.k, s1.r, s1.c, s1.p]
      · replace h := ifF (c := (decide (p0_0 < ((List.length a0 : Nat) : Int)))) hb1 h
        try simp only [go_sem, s1.k, s1.r, s1.c, s1.p]
        refine seq_go ?_
        try simp only [go_sem, s1.k, s1.r, s1.c, s1.p]
        replace h := Option.some.inj h
        obtain rfl := h
        simp only [go_sem, s1.k, s1.r, s1.c, s1.p]
theorem g_IndexFunc_sint64_l1_ok (n : Nat) : (∀ (a0 : List Int) (p0_0 : Int) (f1 : (Int → Option Bool)) (g1 : FuncId) (c1 : List AV) (s1 : Still c1) (h1 : ∀ (y0 : Int) (q : Bool), f1 y0 = some q → AC Try.prog g1 (.int .i64 y0 :: c1) (.bool q)) (r : Int), g_IndexFunc_sint64_l1 n a0 p0_0 f1 = some r → posF Try.prog Try.f168 [1, 0, 1, 0] (.int .i64 r) ⟨[(0, .ro (List.map i64D a0)), (1, .fn g1 c1), (7, .int .i64 ((List.length a0 : Nat) : Int)), (8, .int .i64 p0_0)], [], []⟩) := (g_IndexFunc_sint64_l1_all n)

theorem g_IndexFunc_sint64_ok (a0 : List Int) (f1 : (Int → Option Bool)) (g1 : FuncId) (c1 : List AV) (s1 : Still c1) (h1 : ∀ (y0 : Int) (q : Bool), f1 y0 = some q → AC Try.prog g1 (.int .i64 y0 :: c1) (.bool q)) (r : Int) (h : g_IndexFunc_sint64 a0 f1 = some r) : AC Try.prog 168 [.ro (List.map i64D a0), .fn g1 c1] (.int .i64 r) := by
  unfold g_IndexFunc_sint64 at h
  refine ac_fn mixed Try.func168 rfl rfl rfl (by kernel_rfl) (by kernel_rfl) ?_
  try simp only [go_sem, s1.k, s1.r, s1.c, s1.p]
  have hj := posF_to rfl rfl (g_IndexFunc_sint64_l1_ok fuel a0 0 f1 g1 c1 s1 h1 _ h)
  refine loop_to hj (.one ⟨_, .done _, [], [], ?_⟩)
  clear hj
  try simp only [go_sem, s1.k, s1.r, s1.c, s1.p]
theorem g_ContainsFunc_sint64_ok (a0 : List Int) (f1 : (Int → Option Bool)) (g1 : FuncId) (c1 : List AV) (s1 : Still c1) (h1 : ∀ (y0 : Int) (q : Bool), f1 y0 = some q → AC Try.prog g1 (.int .i64 y0 :: c1) (.bool q)) (r : Bool) (h : g_ContainsFunc_sint64 a0 f1 = some r) : AC Try.prog 137 [.ro (List.map i64D a0), .fn g1 c1] (.bool r) := by
  unfold g_ContainsFunc_sint64 at h
  refine ac_fn mixed Try.func137 rfl rfl rfl (by kernel_rfl) (by kernel_rfl) ?_
  try simp only [go_sem, s1.k, s1.r, s1.c, s1.p]
  replace h := bindE h
  obtain ⟨v2002, hv2002, h⟩ := h
  refine call_i (g_IndexFunc_sint64_ok _ _ g1 c1 s1 h1 _ hv2002) ?_
  try simp only [go_sem, s1.k, s1.r, s1.c, s1.p]
  replace h := Option.some.inj h
  obtain rfl := h
  simp only [go_sem, s1.k, s1.r, s1.c, s1.p]
theorem i_isKind_ok (a0 : Int) (r : Bool) (h : i_isKind a0 = some r) : AC Try.prog 156 [.int .i64 a0] (.bool r) := by
  unfold i_isKind at h
  refine ac_fn mixed Try.func156 rfl rfl rfl (by kernel_rfl) (by kernel_rfl) ?_
  try simp only [go_sem]
  refine cond_i (fun hb1 => ?_) (fun hb1 => ?_)
  · replace h := ifT (c := (decide (1 ≤ a0))) hb1 h
    try simp only [go_sem]
    refine seq_go ?_
    try simp only [go_sem]
    replace h := Option.some.inj h
    obtain rfl := h
    simp only [go_sem]
  · replace h := ifF (c := (decide (1 ≤ a0))) hb1 h
    try simp only [go_sem]
    refine seq_go ?_
    try simp only [go_sem]
    replace h := Option.some.inj h
    obtain rfl := h
    simp only [go_sem]
theorem i_PortsOf_j2_ok (a0 : Int) (p1_0 : Bool) (r : Int) (h : i_PortsOf_j2 a0 p1_0 = some r) : posF Try.prog Try.f176 [1, 0, 0, 1, 1, 1] (.int .i64 r) ⟨[(0, .int .i64 a0), (18, .bool p1_0)], [], []⟩ := by
  unfold i_PortsOf_j2 at h
  refine posF_of rfl rfl ?_
  try simp only [go_sem]
  refine cond_i (fun hb6 => ?_) (fun hb6 => ?_)
  · replace h := ifT (c := p1_0) hb6 h
    try simp only [go_sem]
    replace h := Option.some.inj h
    obtain rfl := h
    simp only [go_sem]
  · replace h := ifF (c := p1_0) hb6 h
    try simp only [go_sem]
    refine seq_go ?_
    try simp only [go_sem]
    replace h := bindE h
    obtain ⟨v6002, hv6002, h⟩ := h
    refine opt_i hv6002 ?_
    try simp only [go_sem]
    replace h := Option.some.inj h
    obtain rfl := h
    simp only [go_sem]
theorem i_PortsOf_j1_ok (a0 : Int) (a1 : Int) (p0_0 : Bool) (r : Int) (h : i_PortsOf_j1 a0 a1 p0_0 = some r) : posF Try.prog Try.f176 [1, 0, 0, 1] (.int .i64 r) ⟨[(0, .int .i64 a0), (1, .int .i64 a1), (5, .bool p0_0)], [], []⟩ := by
  unfold i_PortsOf_j1 at h
  refine posF_of rfl rfl ?_
  try simp only [go_sem]
  refine cond_i (fun hb3 => ?_) (fun hb3 => ?_)
  · replace h := ifT (c := p0_0) hb3 h
    try simp only [go_sem]
    replace h := Option.some.inj h
    obtain rfl := h
    simp only [go_sem]
  · replace h := ifF (c := p0_0) hb3 h
    try simp only [go_sem]
    replace h := bindE h
    obtain ⟨v4001, hv4001, h⟩ := h
    refine call_i (i_isKind_ok _ _ hv4001) ?_
    try simp only [go_sem]
    refine cond_i (fun hb4 => ?_) (fun hb4 => ?_)
    · replace h := ifT (c := (!v4001)) hb4 h
      try simp only [go_sem]
      have hj := posF_to rfl rfl (i_PortsOf_j2_ok a0 true _ h)
      refine seq_to hj (.one ⟨_, .done _, [], [], ?_⟩)
      clear hj
      try simp only [go_sem]
    · replace h := ifF (c := (!v4001)) hb4 h
      try simp only [go_sem]
      refine cond_i (fun hb5 => ?_) (fun hb5 => ?_)
      · replace h := ifT (c := (decide (a0 = 9))) hb5 h
        try simp only [go_sem]
        have hj := posF_to rfl rfl (i_PortsOf_j2_ok a0 true _ h)
        refine seq_to hj (.one ⟨_, .done _, [], [], ?_⟩)
        clear hj
        try simp only [go_sem]
      · replace h := ifF (c := (decide (a0 = 9))) hb5 h
        try simp only [go_sem]
        have hj := posF_to rfl rfl (i_PortsOf_j2_ok a0 (!decide (a1 = 0)) _ h)
        refine seq_to hj (.one ⟨_, .done _, [], [], ?_⟩)
        clear hj
        try simp only [go_sem]
theorem i_PortsOf_ok (a0 : Int) (a1 : Int) (r : Int) (h : i_PortsOf a0 a1 = some r) : AC Try.prog 176 [.int .i64 a0, .int .i64 a1] (.int .i64 r) := by
  unfold i_PortsOf at h
  refine ac_fn mixed Try.func176 rfl rfl rfl (by kernel_rfl) (by kernel_rfl) ?_
  try simp only [go_sem]
  refine cond_i (fun hb1 => ?_) (fun hb1 => ?_)
  · replace h := ifT (c := (decide (a0 = 9))) hb1 h
    try simp only [go_sem]
    refine cond_i (fun hb2 => ?_) (fun hb2 => ?_)
    · replace h := ifT (c := (decide (0 ≤ a1))) hb2 h
      try simp only [go_sem]
      have hj := posF_to rfl rfl (i_PortsOf_j1_ok a0 a1 (decide (a1 ≤ 3)) _ h)
      refine seq_to hj (.one ⟨_, .done _, [], [], ?_⟩)
      clear hj
      try simp only [go_sem]
    · replace h := ifF (c := (decide (0 ≤ a1))) hb2 h
      try simp only [go_sem]
      have hj := posF_to rfl rfl (i_PortsOf_j1_ok a0 a1 false _ h)
      refine seq_to hj (.one ⟨_, .done _, [], [], ?_⟩)
      clear hj
      try simp only [go_sem]
  · replace h := ifF (c := (decide (a0 = 9))) hb1 h
    try simp only [go_sem]
    have hj := posF_to rfl rfl (i_PortsOf_j1_ok a0 a1 false _ h)
    refine seq_to hj (.one ⟨_, .done _, [], [], ?_⟩)
    clear hj
    try simp only [go_sem]
theorem i_fieldsOf_ok (a0 : Int) (a1 : Int) (r : Int) (h : i_fieldsOf a0 a1 = some r) : AC Try.prog 177 [.int .i64 a0, .int .i64 a1] (.int .i64 r) := by
  unfold i_fieldsOf at h
  refine ac_fn mixed Try.func177 rfl rfl rfl (by kernel_rfl) (by kernel_rfl) ?_
  try simp only [go_sem]
  refine cond_i (fun hb1 => ?_) (fun hb1 => ?_)
  · replace h := ifT (c := (decide (a0 = 9))) hb1 h
    try simp only [go_sem]
    replace h := Option.some.inj h
    obtain rfl := h
    simp only [go_sem]
  · replace h := ifF (c := (decide (a0 = 9))) hb1 h
    try simp only [go_sem]
    refine seq_go ?_
    try simp only [go_sem]
    replace h := Option.some.inj h
    obtain rfl := h
    simp only [go_sem]
theorem i_HasLevel_ok (a0 : Int) (r : Bool) (h : i_HasLevel a0 = some r) : AC Try.prog 103 [.int .i64 a0] (.bool r) := by
  unfold i_HasLevel at h
  refine ac_fn mixed Try.func103 rfl rfl rfl (by kernel_rfl) (by kernel_rfl) ?_
  try simp only [go_sem]
  replace h := bindE h
  obtain ⟨v2001, hv2001, h⟩ := h
  refine call_i (i_isKind_ok _ _ hv2001) ?_
  try simp only [go_sem]
  refine cond_i (fun hb1 => ?_) (fun hb1 => ?_)
  · replace h := ifT (c := v2001) hb1 h
    try simp only [go_sem]
    refine cond_i (fun hb2 => ?_) (fun hb2 => ?_)
    · replace h := ifT (c := (!decide (a0 = 1))) hb2 h
      try simp only [go_sem]
      refine cond_i (fun hb3 => ?_) (fun hb3 => ?_)
      · replace h := ifT (c := (!decide (a0 = 5))) hb3 h
        try simp only [go_sem]
        refine seq_go ?_
        try simp only [go_sem]
        replace h := Option.some.inj h
        obtain rfl := h
        simp only [go_sem]
      · replace h := ifF (c := (!decide (a0 = 5))) hb3 h
        try simp only [go_sem]
        refine seq_go ?_
        try simp only [go_sem]
        replace h := Option.some.inj h
        obtain rfl := h
        simp only [go_sem]
    · replace h := ifF (c := (!decide (a0 = 1))) hb2 h
      try simp only [go_sem]
      refine seq_go ?_
      try simp only [go_sem]
      replace h := Option.some.inj h
      obtain rfl := h
      simp only [go_sem]
  · replace h := ifF (c := v2001) hb1 h
    try simp only [go_sem]
    refine seq_go ?_
    try simp only [go_sem]
    replace h := Option.some.inj h
    obtain rfl := h
    simp only [go_sem]
theorem i_isLevel_ok (a0 : Int) (r : Bool) (h : i_isLevel a0 = some r) : AC Try.prog 194 [.int .i64 a0] (.bool r) := by
  unfold i_isLevel at h
  refine ac_fn mixed Try.func194 rfl rfl rfl (by kernel_rfl) (by kernel_rfl) ?_
  try simp only [go_sem]
  refine cond_i (fun hb1 => ?_) (fun hb1 => ?_)
  · replace h := ifT (c := (decide (0 ≤ a0))) hb1 h
    try simp only [go_sem]
    refine seq_go ?_
    try simp only [go_sem]
    replace h := Option.some.inj h
    obtain rfl := h
    simp only [go_sem]
  · replace h := ifF (c := (decide (0 ≤ a0))) hb1 h
    try simp only [go_sem]
    refine seq_go ?_
    try simp only [go_sem]
    replace h := Option.some.inj h
    obtain rfl := h
    simp only [go_sem]
theorem i_isAllowed_ok (a0 : Int) (a1 : Int) (r : Bool) (h : i_isAllowed a0 a1 = some r) : AC Try.prog 178 [.int .i64 a0, .int .i64 a1] (.bool r) := by
  unfold i_isAllowed at h
  refine ac_fn mixed Try.func178 rfl rfl rfl (by kernel_rfl) (by kernel_rfl) ?_
  try simp only [go_sem]
  replace h := bindE h
  obtain ⟨v2001, hv2001, h⟩ := h
  refine call_i (i_isKind_ok _ _ hv2001) ?_
  try simp only [go_sem]
  refine cond_i (fun hb1 => ?_) (fun hb1 => ?_)
  · replace h := ifT (c := v2001) hb1 h
    try simp only [go_sem]
    refine cond_i (fun hb2 => ?_) (fun hb2 => ?_)
    · replace h := ifT (c := (decide (a1 = 0))) hb2 h
      try simp only [go_sem]
      refine seq_go ?_
      try simp only [go_sem]
      replace h := Option.some.inj h
      obtain rfl := h
      simp only [go_sem]
    · replace h := ifF (c := (decide (a1 = 0))) hb2 h
      try simp only [go_sem]
      replace h := bindE h
      obtain ⟨v2007, hv2007, h⟩ := h
      refine call_i (i_HasLevel_ok _ _ hv2007) ?_
      try simp only [go_sem]
      refine cond_i (fun hb3 => ?_) (fun hb3 => ?_)
      · replace h := ifT (c := v2007) hb3 h
        try simp only [go_sem]
        replace h := bindE h
        obtain ⟨v2010, hv2010, h⟩ := h
        refine call_i (i_isLevel_ok _ _ hv2010) ?_
        try simp only [go_sem]
        refine seq_go ?_
        try simp only [go_sem]
        replace h := Option.some.inj h
        obtain rfl := h
        simp only [go_sem]
      · replace h := ifF (c := v2007) hb3 h
        try simp only [go_sem]
        refine seq_go ?_
        try simp only [go_sem]
        replace h := Option.some.inj h
        obtain rfl := h
        simp only [go_sem]
  · replace h := ifF (c := v2001) hb1 h
    try simp only [go_sem]
    refine seq_go ?_
    try simp only [go_sem]
    replace h := Option.some.inj h
    obtain rfl := h
    simp only [go_sem]
theorem i_isDefIndex_ok (a0 : Int) (r : Bool) (h : i_isDefIndex a0 = some r) : AC Try.prog 180 [.int .i64 a0] (.bool r) := by
  unfold i_isDefIndex at h
  refine ac_fn mixed Try.func180 rfl rfl rfl (by kernel_rfl) (by kernel_rfl) ?_
  try simp only [go_sem]
  refine cond_i (fun hb1 => ?_) (fun hb1 => ?_)
  · replace h := ifT (c := (decide (0 ≤ a0))) hb1 h
    try simp only [go_sem]
    refine seq_go ?_
    try simp only [go_sem]
    replace h := Option.some.inj h
    obtain rfl := h
    simp only [go_sem]
  · replace h := ifF (c := (decide (0 ≤ a0))) hb1 h
    try simp only [go_sem]
    refine seq_go ?_
    try simp only [go_sem]
    replace h := Option.some.inj h
    obtain rfl := h
    simp only [go_sem]
theorem i_wellFormed_1_ok (a0 : Int) (r : Bool) (h : i_wellFormed_1 a0 = some r) : AC Try.prog 179 [.int .i64 a0] (.bool r) := by
  unfold i_wellFormed_1 at h
  refine ac_fn mixed Try.func179 rfl rfl rfl (by kernel_rfl) (by kernel_rfl) ?_
  try simp only [go_sem]
  replace h := bindE h
  obtain ⟨v2001, hv2001, h⟩ := h
  refine call_i (i_isDefIndex_ok _ _ hv2001) ?_
  try simp only [go_sem]
  replace h := Option.some.inj h
  obtain rfl := h
  simp only [go_sem]
theorem i_isInt_ok (a0 : Int) (r : Bool) (h : i_isInt a0 = some r) : AC Try.prog 181 [.int .i64 a0] (.bool r) := by
  unfold i_isInt at h
  refine ac_fn mixed Try.func181 rfl rfl rfl (by kernel_rfl) (by kernel_rfl) ?_
  try simp only [go_sem]
  refine cond_i (fun hb1 => ?_) (fun hb1 => ?_)
  · replace h := ifT (c := (decide ((-2147483648) ≤ a0))) hb1 h
    try simp only [go_sem]
    refine seq_go ?_
    try simp only [go_sem]
    replace h := Option.some.inj h
    obtain rfl := h
    simp only [go_sem]
  · replace h := ifF (c := (decide ((-2147483648) ≤ a0))) hb1 h
    try simp only [go_sem]
    refine seq_go ?_
    try simp only [go_sem]
    replace h := Option.some.inj h
    obtain rfl := h
    simp only [go_sem]
theorem i_isOperator_ok (a0 : Int) (r : Bool) (h : i_isOperator a0 = some r) : AC Try.prog 182 [.int .i64 a0] (.bool r) := by
  unfold i_isOperator at h
  refine ac_fn mixed Try.func182 rfl rfl rfl (by kernel_rfl) (by kernel_rfl) ?_
  try simp only [go_sem]
  refine cond_i (fun hb1 => ?_) (fun hb1 => ?_)
  · replace h := ifT (c := (decide (1 ≤ a0))) hb1 h
    try simp only [go_sem]
    refine seq_go ?_
    try simp only [go_sem]
    replace h := Option.some.inj h
    obtain rfl := h
    simp only [go_sem]
  · replace h := ifF (c := (decide (1 ≤ a0))) hb1 h
    try simp only [go_sem]
    refine seq_go ?_
    try simp only [go_sem]
    replace h := Option.some.inj h
    obtain rfl := h
    simp only [go_sem]
theorem i_wellFormed_j2_ok (p1_0 : Bool) (p1_1 : Bool) (r : Bool) (h : i_wellFormed_j2 p1_0 p1_1 = some r) : posF Try.prog Try.f154 [1, 1, 1, 1, 1] (.bool r) ⟨[(3, .bool p1_0), (4, .bool p1_1)], [], []⟩ := by
  unfold i_wellFormed_j2 at h
  refine posF_of rfl rfl ?_
  try simp only [go_sem]
  refine cond_i (fun hb17 => ?_) (fun hb17 => ?_)
  · replace h := ifT (c := p1_0) hb17 h
    try simp only [go_sem]
    refine seq_go ?_
    try simp only [go_sem]
    replace h := Option.some.inj h
    obtain rfl := h
    simp only [go_sem]
  · replace h := ifF (c := p1_0) hb17 h
    try simp only [go_sem]
    refine seq_go ?_
    try simp only [go_sem]
    replace h := Option.some.inj h
    obtain rfl := h
    simp only [go_sem]
theorem i_wellFormed_j1_ok (a0 : Agent) (p0_0 : Bool) (r : Bool) (h : i_wellFormed_j1 a0 p0_0 = some r) : posF Try.prog Try.f154 [1, 0, 1] (.bool r) ⟨[(1, .box 1000000500 0), (32, .bool p0_0)], [], [(1000000500, some [.int .i64 a0.kind, .int .i64 a0.level, .int .i64 a0.value, .ro (List.map i64D a0.data), .ro (List.map Port.ds a0.ports)])]⟩ := by
  unfold i_wellFormed_j1 at h
  refine posF_of rfl rfl ?_
  try simp only [go_sem]
  refine cond_i (fun hb3 => ?_) (fun hb3 => ?_)
  · replace h := ifT (c := p0_0) hb3 h
    try simp only [go_sem]
    replace h := Option.some.inj h
    obtain rfl := h
    simp only [go_sem]
  · replace h := ifF (c := p0_0) hb3 h
    try simp only [go_sem]
    refine seq_go ?_
    try simp only [go_sem]
    refine draw_i [] .fin (by kernel_rfl) ?_
    try simp only [go_sem]
    refine seq_go ?_
    try simp only [go_sem]
    replace h := bindE h
    obtain ⟨v5002, hv5002, h⟩ := h
    refine call_i (g_ContainsFunc_sint64_ok _ _ 179 [] (Still.of rfl) (fun y0 q hq => i_wellFormed_1_ok y0  q hq) _ hv5002) ?_
    try simp only [go_sem]
    refine cond_i (fun hb4 => ?_) (fun hb4 => ?_)
    · replace h := ifT (c := (decide (a0.kind = 6))) hb4 h
      try simp only [go_sem]
      replace h := bindE h
      obtain ⟨v8002, hv8002, h⟩ := h
      refine call_i (i_isInt_ok _ _ hv8002) ?_
      try simp only [go_sem]
      have hj := posF_to rfl rfl (i_wellFormed_j2_ok v8002 (decide (((List.length a0.data : Nat) : Int) = 0)) _ h)
      refine seq_to hj (.one ⟨_, .done _, [], [], ?_⟩)
      clear hj
      try simp only [go_sem]
    · replace h := ifF (c := (decide (a0.kind = 6))) hb4 h
      try simp only [go_sem]
      refine cond_i (fun hb5 => ?_) (fun hb5 => ?_)
      · replace h := ifT (c := (decide (a0.kind = 7))) hb5 h
        try simp only [go_sem]
        replace h := bindE h
        obtain ⟨v10002, hv10002, h⟩ := h
        refine call_i (i_isOperator_ok _ _ hv10002) ?_
        try simp only [go_sem]
        have hj := posF_to rfl rfl (i_wellFormed_j2_ok v10002 (decide (((List.length a0.data : Nat) : Int) = 0)) _ h)
        refine seq_to hj (.one ⟨_, .done _, [], [], ?_⟩)
        clear hj
        try simp only [go_sem]
      · replace h := ifF (c := (decide (a0.kind = 7))) hb5 h
        try simp only [go_sem]
        refine cond_i (fun hb6 => ?_) (fun hb6 => ?_)
        · replace h := ifT (c := (decide (a0.kind = 8))) hb6 h
          try simp only [go_sem]
          replace h := bindE h
          obtain ⟨v12002, hv12002, h⟩ := h
          refine call_i (i_isOperator_ok _ _ hv12002) ?_
          try simp only [go_sem]
          refine cond_i (fun hb7 => ?_) (fun hb7 => ?_)
          · replace h := ifT (c := v12002) hb7 h
            try simp only [go_sem]
            refine cond_i (fun hb8 => ?_) (fun hb8 => ?_)
            · replace h := ifT (c := (decide (((List.length a0.data : Nat) : Int) = 1))) hb8 h
              try simp only [go_sem]
              replace h := bindE h
              obtain ⟨v12012, hv12012, h⟩ := h
              refine idx_m hv12012 rfl ?_
              try simp only [go_sem]
              replace h := bindE h
              obtain ⟨v12014, hv12014, h⟩ := h
              refine call_i (i_isInt_ok _ _ hv12014) ?_
              try simp only [go_sem]
              refine seq_go ?_
              try simp only [go_sem]
              replace h := Option.some.inj h
              obtain rfl := h
              simp only [go_sem]
            · replace h := ifF (c := (decide (((List.length a0.data : Nat) : Int) = 1))) hb8 h
              try simp only [go_sem]
              refine seq_go ?_
              try simp only [go_sem]
              replace h := Option.some.inj h
              obtain rfl := h
              simp only [go_sem]
          · replace h := ifF (c := v12002) hb7 h
            try simp only [go_sem]
            refine seq_go ?_
            try simp only [go_sem]
            replace h := Option.some.inj h
            obtain rfl := h
            simp only [go_sem]
        · replace h := ifF (c := (decide (a0.kind = 8))) hb6 h
          try simp only [go_sem]
          refine cond_i (fun hb9 => ?_) (fun hb9 => ?_)
          · replace h := ifT (c := (decide (a0.kind = 9))) hb9 h
            try simp only [go_sem]
            refine cond_i (fun hb10 => ?_) (fun hb10 => ?_)
            · replace h := ifT (c := (decide (0 ≤ a0.value))) hb10 h
              try simp only [go_sem]
              have hj := posF_to rfl rfl (i_wellFormed_j2_ok (decide (a0.value < 4)) (decide (((List.length a0.data : Nat) : Int) = 0)) _ h)
              refine seq_to hj (.one ⟨_, .done _, [], [], ?_⟩)
              clear hj
              try simp only [go_sem]
            · replace h := ifF (c := (decide (0 ≤ a0.value))) hb10 h
              try simp only [go_sem]
              have hj := posF_to rfl rfl (i_wellFormed_j2_ok false (decide (((List.length a0.data : Nat) : Int) = 0)) _ h)
              refine seq_to hj (.one ⟨_, .done _, [], [], ?_⟩)
              clear hj
              try simp only [go_sem]
          · replace h := ifF (c := (decide (a0.kind = 9))) hb9 h
            try simp only [go_sem]
            refine cond_i (fun hb11 => ?_) (fun hb11 => ?_)
            · replace h := ifT (c := (decide (a0.kind = 10))) hb11 h
              try simp only [go_sem]
              refine cond_i (fun hb12 => ?_) (fun hb12 => ?_)
              · replace h := ifT (c := (decide (1 ≤ ((List.length a0.data : Nat) : Int)))) hb12 h
                try simp only [go_sem]
                refine cond_i (fun hb13 => ?_) (fun hb13 => ?_)
                · replace h := ifT (c := (decide (((List.length a0.data : Nat) : Int) ≤ 4))) hb13 h
                  try simp only [go_sem]
                  have hj := posF_to rfl rfl (i_wellFormed_j2_ok (decide (a0.value = 0)) (!v5002) _ h)
                  refine seq_to hj (.one ⟨_, .done _, [], [], ?_⟩)
                  clear hj
                  try simp only [go_sem]
                · replace h := ifF (c := (decide (((List.length a0.data : Nat) : Int) ≤ 4))) hb13 h
                  try simp only [go_sem]
                  have hj := posF_to rfl rfl (i_wellFormed_j2_ok (decide (a0.value = 0)) false _ h)
                  refine seq_to hj (.one ⟨_, .done _, [], [], ?_⟩)
                  clear hj
                  try simp only [go_sem]
              · replace h := ifF (c := (decide (1 ≤ ((List.length a0.data : Nat) : Int)))) hb12 h
                try simp only [go_sem]
                have hj := posF_to rfl rfl (i_wellFormed_j2_ok (decide (a0.value = 0)) false _ h)
                refine seq_to hj (.one ⟨_, .done _, [], [], ?_⟩)
                clear hj
                try simp only [go_sem]
            · replace h := ifF (c := (decide (a0.kind = 10))) hb11 h
              try simp only [go_sem]
              refine cond_i (fun hb14 => ?_) (fun hb14 => ?_)
              · replace h := ifT (c := (decide (a0.kind = 11))) hb14 h
                try simp only [go_sem]
                refine cond_i (fun hb15 => ?_) (fun hb15 => ?_)
                · replace h := ifT (c := (decide (((List.length a0.data : Nat) : Int) = 2))) hb15 h
                  try simp only [go_sem]
                  have hj := posF_to rfl rfl (i_wellFormed_j2_ok (decide (a0.value = 0)) (!v5002) _ h)
                  refine seq_to hj (.one ⟨_, .done _, [], [], ?_⟩)
                  clear hj
                  try simp only [go_sem]
                · replace h := ifF (c := (decide (((List.length a0.data : Nat) : Int) = 2))) hb15 h
                  try simp only [go_sem]
                  have hj := posF_to rfl rfl (i_wellFormed_j2_ok (decide (a0.value = 0)) false _ h)
                  refine seq_to hj (.one ⟨_, .done _, [], [], ?_⟩)
                  clear hj
                  try simp only [go_sem]
              · replace h := ifF (c := (decide (a0.kind = 11))) hb14 h
                try simp only [go_sem]
                refine cond_i (fun hb16 => ?_) (fun hb16 => ?_)
                · replace h := ifT (c := (decide (a0.kind = 12))) hb16 h
                  try simp only [go_sem]
                  replace h := bindE h
                  obtain ⟨v20002, hv20002, h⟩ := h
                  refine call_i (i_isDefIndex_ok _ _ hv20002) ?_
                  try simp only [go_sem]
                  have hj := posF_to rfl rfl (i_wellFormed_j2_ok v20002 (decide (((List.length a0.data : Nat) : Int) = 0)) _ h)
                  refine seq_to hj (.one ⟨_, .done _, [], [], ?_⟩)
                  clear hj
                  try simp only [go_sem]
                · replace h := ifF (c := (decide (a0.kind = 12))) hb16 h
                  try simp only [go_sem]
                  have hj := posF_to rfl rfl (i_wellFormed_j2_ok (decide (a0.value = 0)) (decide (((List.length a0.data : Nat) : Int) = 0)) _ h)
                  refine seq_to hj (.one ⟨_, .done _, [], [], ?_⟩)
                  clear hj
                  try simp only [go_sem]
theorem i_wellFormed_ok (a0 : Agent) (r : Bool) (h : i_wellFormed a0 = some r) : AC Try.prog 154 [.agg (Agent.avs a0)] (.bool r) := by
  unfold i_wellFormed at h
  refine ac_fn mixed Try.func154 rfl rfl rfl (by kernel_rfl) (by kernel_rfl) ?_
  try simp only [go_sem]
  refine draw_i [] .fin (by kernel_rfl) ?_
  try simp only [go_sem]
  refine cond_i (fun hb1 => ?_) (fun hb1 => ?_)
  · replace h := ifT (c := (decide (((List.length a0.ports : Nat) : Int) = 0))) hb1 h
    try simp only [go_sem]
    have hj := posF_to rfl rfl (i_wellFormed_j1_ok a0 true _ h)
    refine seq_to hj (.one ⟨_, .done _, [], [(1000000500, 1000)], ?_⟩)
    clear hj
    try simp only [go_sem]
  · replace h := ifF (c := (decide (((List.length a0.ports : Nat) : Int) = 0))) hb1 h
    try simp only [go_sem]
    replace h := bindE h
    obtain ⟨v2012, hv2012, h⟩ := h
    refine call_i (i_fieldsOf_ok _ _ _ hv2012) ?_
    try simp only [go_sem]
    replace h := bindE h
    obtain ⟨v2013, hv2013, h⟩ := h
    refine call_i (i_PortsOf_ok _ _ _ hv2013) ?_
    try simp only [go_sem]
    refine cond_i (fun hb2 => ?_) (fun hb2 => ?_)
    · replace h := ifT (c := (!decide (v2013 = ((List.length a0.ports : Nat) : Int)))) hb2 h
      try simp only [go_sem]
      have hj := posF_to rfl rfl (i_wellFormed_j1_ok a0 true _ h)
      refine seq_to hj (.one ⟨_, .done _, [], [(1000000500, 1000)], ?_⟩)
      clear hj
      try simp only [go_sem]
    · replace h := ifF (c := (!decide (v2013 = ((List.length a0.ports : Nat) : Int)))) hb2 h
      try simp only [go_sem]
      replace h := bindE h
      obtain ⟨v2024, hv2024, h⟩ := h
      refine call_i (i_isAllowed_ok _ _ _ hv2024) ?_
      try simp only [go_sem]
      have hj := posF_to rfl rfl (i_wellFormed_j1_ok a0 (!v2024) _ h)
      refine seq_to hj (.one ⟨_, .done _, [], [(1000000500, 1000)], ?_⟩)
      clear hj
      try simp only [go_sem]
theorem i_areAgents_l4_all (n : Nat) : (∀ (a0 : List Agent) (p1_0 : Int) (r : Bool), i_areAgents_l4 n a0 p1_0 = some r → posF Try.prog Try.f95 [1, 1, 0, 1, 0] (.bool r) ⟨[(13, .ro (List.map Agent.ds a0)), (14, .int .i64 ((List.length a0 : Nat) : Int)), (15, .int .i64 p1_0)], [], []⟩) ∧
    (∀ (a0 : List Agent) (p1_0 : Int) (p2_0 : Bool) (r : Bool), i_areAgents_j5 n a0 p1_0 p2_0 = some r → posF Try.prog Try.f95 [1, 1, 0, 1, 0, 0, 1, 1, 0, 0, 1, 1] (.bool r) ⟨[(13, .ro (List.map Agent.ds a0)), (14, .int .i64 ((List.length a0 : Nat) : Int)), (15, .int .i64 p1_0), (30, .bool p2_0)], [], []⟩) := by
  induction n with
  | zero => exact ⟨(fun _ _ _ h => by rw [i_areAgents_l4] at h; cases h), (fun _ _ _ _ h => by rw [i_areAgents_j5] at h; cases h)⟩
  | succ n ih =>
    obtain ⟨ih0, ih1⟩ := ih
    refine ⟨?_, ?_⟩
    · intro a0 p1_0 r h
      rw [i_areAgents_l4] at h
      refine posF_of rfl rfl ?_
      try simp only [go_sem]
      refine loop_i ?_
      try simp only [go_sem]
      refine cond_i (fun hb3 => ?_) (fun hb3 => ?_)
      · replace h := ifT (c := (decide (p1_0 < ((List.length a0 : Nat) : Int)))) hb3 h
        try simp only [go_sem]
        refine seq_go ?_
        try simp only [go_sem]
        replace h := bindE h
        obtain ⟨v6001, hv6001, h⟩ := h
        refine idx_m hv6001 (Agent.ds_len _) ?_
        try simp only [go_sem]
        replace h := bindE h
        obtain ⟨v7001, hv7001, h⟩ := h
        refine call_i (i_wellFormed_ok _ _ hv7001) ?_
        try simp only [go_sem]
        refine cond_i (fun hb4 => ?_) (fun hb4 => ?_)
        · replace h := ifT (c := (!v7001)) hb4 h
          try simp only [go_sem]
          have hj := posF_to rfl rfl (ih1 a0 p1_0 true _ h)
          refine seq_to hj (.one ⟨_, .done _, [], [], ?_⟩)
          clear hj
          try simp only [go_sem]
        · replace h := ifF (c := (!v7001)) hb4 h
          try simp only [go_sem]
          have hj := posF_to rfl rfl (ih1 a0 p1_0 (!((decide (v6001.kind = 1)) == (decide (p1_0 = 0)))) _ h)
          refine seq_to hj (.one ⟨_, .done _, [], [], ?_⟩)
          clear hj
          try simp only [go_sem]
      · replace h := ifF (c := (decide (p1_0 < ((List.length a0 : Nat) : Int)))) hb3 h
        try simp only [go_sem]
        refine seq_go ?_
        try simp only [go_sem]
        replace h := Option.some.inj h
        obtain rfl := h
        simp only [go_sem]
    · intro a0 p1_0 p2_0 r h
      rw [i_areAgents_j5] at h
      refine posF_of rfl rfl ?_
      try simp only [go_sem]
      refine cond_i (fun hb5 => ?_) (fun hb5 => ?_)
      · replace h := ifT (c := p2_0) hb5 h
        try simp only [go_sem]
        replace h := Option.some.inj h
        obtain rfl := h
        simp only [go_sem]
      · replace h := ifF (c := p2_0) hb5 h
        try simp only [go_sem]
        refine seq_go ?_
        try simp only [go_sem]
        have hj := posF_to rfl rfl (ih0 a0 (IntKind.i64.wrap (p1_0 + 1)) _ h)
        refine lp_to hj (.one ⟨_, .done _, [], [], ?_⟩)
        clear hj
        try simp only [go_sem]
theorem i_areAgents_l4_ok (n : Nat) : (∀ (a0 : List Agent) (p1_0 : Int) (r : Bool), i_areAgents_l4 n a0 p1_0 = some r → posF Try.prog Try.f95 [1, 1, 0, 1, 0] (.bool r) ⟨[(13, .ro (List.map Agent.ds a0)), (14, .int .i64 ((List.length a0 : Nat) : Int)), (15, .int .i64 p1_0)], [], []⟩) := (i_areAgents_l4_all n).1
theorem i_areAgents_j5_ok (n : Nat) : (∀ (a0 : List Agent) (p1_0 : Int) (p2_0 : Bool) (r : Bool), i_areAgents_j5 n a0 p1_0 p2_0 = some r → posF Try.prog Try.f95 [1, 1, 0, 1, 0, 0, 1, 1, 0, 0, 1, 1] (.bool r) ⟨[(13, .ro (List.map Agent.ds a0)), (14, .int .i64 ((List.length a0 : Nat) : Int)), (15, .int .i64 p1_0), (30, .bool p2_0)], [], []⟩) := (i_areAgents_l4_all n).2

theorem i_areAgents_j1_ok (a0 : List Agent) (p0_0 : Bool) (r : Bool) (h : i_areAgents_j1 a0 p0_0 = some r) : posF Try.prog Try.f95 [1, 0, 1] (.bool r) ⟨[(0, .ro (List.map Agent.ds a0)), (12, .bool p0_0)], [], []⟩ := by
  unfold i_areAgents_j1 at h
  refine posF_of rfl rfl ?_
  try simp only [go_sem]
  refine cond_i (fun hb2 => ?_) (fun hb2 => ?_)
  · replace h := ifT (c := p0_0) hb2 h
    try simp only [go_sem]
    replace h := Option.some.inj h
    obtain rfl := h
    simp only [go_sem]
  · replace h := ifF (c := p0_0) hb2 h
    try simp only [go_sem]
    refine seq_go ?_
    try simp only [go_sem]
    have hj := posF_to rfl rfl (i_areAgents_l4_ok fuel a0 0 _ h)
    refine loop_to hj (.one ⟨_, .done _, [], [], ?_⟩)
    clear hj
    try simp only [go_sem]
theorem i_areAgents_ok (a0 : List Agent) (r : Bool) (h : i_areAgents a0 = some r) : AC Try.prog 95 [.ro (List.map Agent.ds a0)] (.bool r) := by
  unfold i_areAgents at h
  refine ac_fn mixed Try.func95 rfl rfl rfl (by kernel_rfl) (by kernel_rfl) ?_
  try simp only [go_sem]
  refine cond_i (fun hb1 => ?_) (fun hb1 => ?_)
  · replace h := ifT (c := (decide (((List.length a0 : Nat) : Int) < 1))) hb1 h
    try simp only [go_sem]
    have hj := posF_to rfl rfl (i_areAgents_j1_ok a0 true _ h)
    refine seq_to hj (.one ⟨_, .done _, [], [], ?_⟩)
    clear hj
    try simp only [go_sem]
  · replace h := ifF (c := (decide (((List.length a0 : Nat) : Int) < 1))) hb1 h
    try simp only [go_sem]
    have hj := posF_to rfl rfl (i_areAgents_j1_ok a0 (decide (600 < ((List.length a0 : Nat) : Int))) _ h)
    refine seq_to hj (.one ⟨_, .done _, [], [], ?_⟩)
    clear hj
    try simp only [go_sem]
theorem g_IndexFunc_simpl_Port_l1_all (n : Nat) : (∀ (a0 : List Port) (p0_0 : Int) (f1 : (Port → Option Bool)) (g1 : FuncId) (c1 : List AV) (s1 : Still c1) (h1 : ∀ (y0 : Port) (q : Bool), f1 y0 = some q → AC Try.prog g1 (.agg (Port.avs y0) :: c1) (.bool q)) (r : Int), g_IndexFunc_simpl_Port_l1 n a0 p0_0 f1 = some r → posF Try.prog Try.f155 [1, 0, 1, 0] (.int .i64 r) ⟨[(0, .ro (List.map Port.ds a0)), (1, .fn g1 c1), (7, .int .i64 ((List.length a0 : Nat) : Int)), (8, .int .i64 p0_0)], [], []⟩) := by
  induction n with
  | zero => exact ((fun _ _ _ _ _ _ _ _ h => by rw [g_IndexFunc_simpl_Port_l1] at h; cases h))
  | succ n ih =>
    have ih0 := ih
    · intro a0 p0_0 f1 g1 c1 s1 h1 r h
      rw [g_IndexFunc_simpl_Port_l1] at h
      refine posF_of rfl rfl ?_
      try simp only [go_sem, s1.k, s1.r, s1.c, s1.p]
      refine loop_i ?_
      try simp only [go_sem, s1.k, s1.r, s1.c, s1.p]
      refine cond_i (fun hb1 => ?_) (fun hb1 => ?_)
      · replace h := ifT (c := (decide (p0_0 < ((List.length a0 : Nat) : Int)))) hb1 h
        try simp only [go_sem, s1.k, s1.r, s1.c, s1.p]
        refine seq_go ?_
        try simp only [go_sem, s1.k, s1.r, s1.c, s1.p]
        replace h := bindE h
        obtain ⟨v5003, hv5003, h⟩ := h
        refine idx_m hv5003 (Port.ds_len _) ?_
        try simp only [go_sem, s1.k, s1.r, s1.c, s1.p]
        replace h := bindE h
        obtain ⟨v5005, hv5005, h⟩ := h
        refine call_i (h1 _ _ hv5005) ?_
        try simp only [go_sem, s1.k, s1.r, s1.c, s1.p]
        refine cond_i (fun hb2 => ?_) (fun hb2 => ?_)
        · replace h := ifT (c := v5005) hb2 h
          try simp only [go_sem, s1.k, s1.r, s1.c, s1.p]
          replace h := Option.some.inj h
          obtain rfl := h
          simp only [go_sem, s1.k, s1.r, s1.c, s1.p]
        · replace h := ifF (c := v5005) hb2 h
          try simp only [go_sem, s1.k, s1.r, s1.c, s1.p]
          refine seq_go ?_
          try simp only [go_sem, s1.k, s1.r, s1.c, s1.p]
          have hj := posF_to rfl rfl (ih0 a0 (IntKind.i64.wrap (p0_0 + 1)) f1 g1 c1 s1 h1 _ h)
          refine lp_to hj (.one ⟨_, .done _, [], [], ?_⟩)
          clear hj
          try simp only [go_sem, s1.k, s1.r, s1.c, s1.p]
      · replace h := ifF (c := (decide (p0_0 < ((List.length a0 : Nat) : Int)))) hb1 h
        try simp only [go_sem, s1.k, s1.r, s1.c, s1.p]
        refine seq_go ?_
        try simp only [go_sem, s1.k, s1.r, s1.c, s1.p]
        replace h := Option.some.inj h
        obtain rfl := h
        simp only [go_sem, s1.k, s1.r, s1.c, s1.p]
theorem g_IndexFunc_simpl_Port_l1_ok (n : Nat) : (∀ (a0 : List Port) (p0_0 : Int) (f1 : (Port → Option Bool)) (g1 : FuncId) (c1 : List AV) (s1 : Still c1) (h1 : ∀ (y0 : Port) (q : Bool), f1 y0 = some q → AC Try.prog g1 (.agg (Port.avs y0) :: c1) (.bool q)) (r : Int), g_IndexFunc_simpl_Port_l1 n a0 p0_0 f1 = some r → posF Try.prog Try.f155 [1, 0, 1, 0] (.int .i64 r) ⟨[(0, .ro (List.map Port.ds a0)), (1, .fn g1 c1), (7, .int .i64 ((List.length a0 : Nat) : Int)), (8, .int .i64 p0_0)], [], []⟩) := (g_IndexFunc_simpl_Port_l1_all n)

theorem g_IndexFunc_simpl_Port_ok (a0 : List Port) (f1 : (Port → Option Bool)) (g1 : FuncId) (c1 : List AV) (s1 : Still c1) (h1 : ∀ (y0 : Port) (q : Bool), f1 y0 = some q → AC Try.prog g1 (.agg (Port.avs y0) :: c1) (.bool q)) (r : Int) (h : g_IndexFunc_simpl_Port a0 f1 = some r) : AC Try.prog 155 [.ro (List.map Port.ds a0), .fn g1 c1] (.int .i64 r) := by
  unfold g_IndexFunc_simpl_Port at h
  refine ac_fn mixed Try.func155 rfl rfl rfl (by kernel_rfl) (by kernel_rfl) ?_
  try simp only [go_sem, s1.k, s1.r, s1.c, s1.p]
  have hj := posF_to rfl rfl (g_IndexFunc_simpl_Port_l1_ok fuel a0 0 f1 g1 c1 s1 h1 _ h)
  refine loop_to hj (.one ⟨_, .done _, [], [], ?_⟩)
  clear hj
  try simp only [go_sem, s1.k, s1.r, s1.c, s1.p]
theorem g_ContainsFunc_simpl_Port_ok (a0 : List Port) (f1 : (Port → Option Bool)) (g1 : FuncId) (c1 : List AV) (s1 : Still c1) (h1 : ∀ (y0 : Port) (q : Bool), f1 y0 = some q → AC Try.prog g1 (.agg (Port.avs y0) :: c1) (.bool q)) (r : Bool) (h : g_ContainsFunc_simpl_Port a0 f1 = some r) : AC Try.prog 96 [.ro (List.map Port.ds a0), .fn g1 c1] (.bool r) := by
  unfold g_ContainsFunc_simpl_Port at h
  refine ac_fn mixed Try.func96 rfl rfl rfl (by kernel_rfl) (by kernel_rfl) ?_
  try simp only [go_sem, s1.k, s1.r, s1.c, s1.p]
  replace h := bindE h
  obtain ⟨v2002, hv2002, h⟩ := h
  refine call_i (g_IndexFunc_simpl_Port_ok _ _ g1 c1 s1 h1 _ hv2002) ?_
  try simp only [go_sem, s1.k, s1.r, s1.c, s1.p]
  replace h := Option.some.inj h
  obtain rfl := h
  simp only [go_sem, s1.k, s1.r, s1.c, s1.p]
theorem i_Net_ports_l4_all (n : Nat) : (∀ (a0 : Net) (p0_0 : List Port) (p0_1 : Int) (r : (List Port)), i_Net_ports_l4 n a0 p0_0 p0_1 = some r → posF Try.prog Try.f97 [1, 1, 0, 1, 0] (.ow (some 2) (List.map Port.ds r)) ⟨[(3, .own 1000000000), (10, .ro (List.map Agent.ds a0.agents)), (11, .int .i64 ((List.length a0.agents : Nat) : Int)), (12, .int .i64 p0_1)], [(1000000000, some ⟨List.map Port.ds p0_0, some 2, 0⟩)], []⟩) ∧
    (∀ (a0 : Net) (p0_1 : Int) (v5001 : Agent) (p4_0 : List Port) (p4_1 : Int) (r : (List Port)), i_Net_ports_l8 n a0 p0_1 v5001 p4_0 p4_1 = some r → posF Try.prog Try.f97 [1, 1, 0, 1, 0, 0, 1, 1, 0, 0, 1, 1, 0] (.ow (some 2) (List.map Port.ds r)) ⟨[(3, .own 1000004000), (4, .int .i64 p0_1), (10, .ro (List.map Agent.ds a0.agents)), (11, .int .i64 ((List.length a0.agents : Nat) : Int)), (12, .int .i64 p0_1), (19, .int .i64 ((List.length v5001.ports : Nat) : Int)), (20, .int .i64 p4_1)], [(1000004000, some ⟨List.map Port.ds p4_0, some 2, 0⟩)], []⟩) := by
  induction n with
  | zero => exact ⟨(fun _ _ _ _ h => by rw [i_Net_ports_l4] at h; cases h), (fun _ _ _ _ _ _ h => by rw [i_Net_ports_l8] at h; cases h)⟩
  | succ n ih =>
    obtain ⟨ih0, ih1⟩ := ih
    refine ⟨?_, ?_⟩
    · intro a0 p0_0 p0_1 r h
      rw [i_Net_ports_l4] at h
      refine posF_of rfl rfl ?_
      try simp only [go_sem]
      refine loop_i ?_
      try simp only [go_sem]
      refine cond_i (fun hb1 => ?_) (fun hb1 => ?_)
      · replace h := ifT (c := (decide (p0_1 < ((List.length a0.agents : Nat) : Int)))) hb1 h
        try simp only [go_sem]
        refine seq_go ?_
        try simp only [go_sem]
        replace h := bindE h
        obtain ⟨v5001, hv5001, h⟩ := h
        refine idx_m hv5001 (Agent.ds_len _) ?_
        try simp only [go_sem]
        have hj := posF_to rfl rfl (ih1 a0 p0_1 v5001 p0_0 0 _ h)
        refine loop_to hj (.one ⟨_, .done _, [(1000004000, 1000000000)], [], ?_⟩)
        clear hj
        try simp only [go_sem]
      · replace h := ifF (c := (decide (p0_1 < ((List.length a0.agents : Nat) : Int)))) hb1 h
        try simp only [go_sem]
        refine seq_go ?_
        try simp only [go_sem]
        replace h := Option.some.inj h
        obtain rfl := h
        simp only [go_sem]
    · intro a0 p0_1 v5001 p4_0 p4_1 r h
      rw [i_Net_ports_l8] at h
      refine posF_of rfl rfl ?_
      try simp only [go_sem]
      refine loop_i ?_
      try simp only [go_sem]
      refine cond_i (fun hb2 => ?_) (fun hb2 => ?_)
      · replace h := ifT (c := (decide (p4_1 < ((List.length v5001.ports : Nat) : Int)))) hb2 h
        try simp only [go_sem]
        refine seq_go ?_
        try simp only [go_sem]
        replace h := bindE h
        obtain ⟨v9005, hv9005, h⟩ := h
        have hq_ := app_some hv9005
        obtain ⟨hv9005a, hv9005b⟩ := hq_
        refine and_i (by refine ⟨?_, ?_⟩ <;> (try simp only [List.length_map, List.length_append, List.length_cons, List.length_nil] at *) <;> (try unfold maxLen) <;> omega) ?_
        try simp only [go_sem]
        refine row_i (List.map Port.ds v9005) (by rw [← hv9005b]; simp only [List.map_append, List.map_cons, List.map_nil, List.nil_append, List.append_nil, go_sem, Port.ds_eq]) ?_
        try simp only [go_sem]
        refine seq_go ?_
        try simp only [go_sem]
        have hj := posF_to rfl rfl (ih1 a0 p0_1 v5001 v9005 (IntKind.i64.wrap (p4_1 + 1)) _ h)
        refine lp_to hj (.one ⟨_, .done _, [(1000004000, 144080)], [], ?_⟩)
        clear hj
        try simp only [go_sem]
      · replace h := ifF (c := (decide (p4_1 < ((List.length v5001.ports : Nat) : Int)))) hb2 h
        try simp only [go_sem]
        refine seq_go ?_
        try simp only [go_sem]
        have hj := posF_to rfl rfl (ih0 a0 p4_0 (IntKind.i64.wrap (p0_1 + 1)) _ h)
        refine lp_to hj (.one ⟨_, .done _, [(1000000000, 1000004000)], [], ?_⟩)
        clear hj
        try simp only [go_sem]
theorem i_Net_ports_l4_ok (n : Nat) : (∀ (a0 : Net) (p0_0 : List Port) (p0_1 : Int) (r : (List Port)), i_Net_ports_l4 n a0 p0_0 p0_1 = some r → posF Try.prog Try.f97 [1, 1, 0, 1, 0] (.ow (some 2) (List.map Port.ds r)) ⟨[(3, .own 1000000000), (10, .ro (List.map Agent.ds a0.agents)), (11, .int .i64 ((List.length a0.agents : Nat) : Int)), (12, .int .i64 p0_1)], [(1000000000, some ⟨List.map Port.ds p0_0, some 2, 0⟩)], []⟩) := (i_Net_ports_l4_all n).1
theorem i_Net_ports_l8_ok (n : Nat) : (∀ (a0 : Net) (p0_1 : Int) (v5001 : Agent) (p4_0 : List Port) (p4_1 : Int) (r : (List Port)), i_Net_ports_l8 n a0 p0_1 v5001 p4_0 p4_1 = some r → posF Try.prog Try.f97 [1, 1, 0, 1, 0, 0, 1, 1, 0, 0, 1, 1, 0] (.ow (some 2) (List.map Port.ds r)) ⟨[(3, .own 1000004000), (4, .int .i64 p0_1), (10, .ro (List.map Agent.ds a0.agents)), (11, .int .i64 ((List.length a0.agents : Nat) : Int)), (12, .int .i64 p0_1), (19, .int .i64 ((List.length v5001.ports : Nat) : Int)), (20, .int .i64 p4_1)], [(1000004000, some ⟨List.map Port.ds p4_0, some 2, 0⟩)], []⟩) := (i_Net_ports_l4_all n).2

theorem i_Net_ports_ok (a0 : Net) (r : (List Port)) (h : i_Net_ports a0 = some r) : AC Try.prog 97 [.rop (Net.avs a0) 0] (.ow (some 2) (List.map Port.ds r)) := by
  unfold i_Net_ports at h
  refine ac_fn mixed Try.func97 rfl rfl rfl (by kernel_rfl) (by kernel_rfl) ?_
  try simp only [go_sem]
  have hj := posF_to rfl rfl (i_Net_ports_l4_ok fuel a0 [] 0 _ h)
  refine loop_to hj (.one ⟨_, .slot 3 2000000000 (some 2) (by simp only [go_sem]) (by simp only [go_sem]) (.done _), [(1000000000, 2000000000)], [], ?_⟩)
  clear hj
  simp only [go_sem]
  all_goals try rfl
theorem i_Net_peer_ok (a0 : Net) (a1 : Port) (r : Port) (h : i_Net_peer a0 a1 = some r) : AC Try.prog 99 [.rop (Net.avs a0) 0, .agg (Port.avs a1)] (.agg (Port.rv r)) := by
  unfold i_Net_peer at h
  refine ac_fn mixed Try.func99 rfl rfl rfl (by kernel_rfl) (by kernel_rfl) ?_
  try simp only [go_sem]
  refine draw_i [false, false, false, false, false, false, false, false, false, false, false, false, false, true] (Tr.sq [13] .fin) (by kernel_rfl) ?_
  try simp only [go_sem]
  replace h := bindE h
  obtain ⟨v2006, hv2006, h⟩ := h
  refine idx_m hv2006 (Agent.ds_len _) ?_
  try simp only [go_sem]
  replace h := bindE h
  obtain ⟨v2011, hv2011, h⟩ := h
  refine idx_m hv2011 (Port.ds_len _) ?_
  try simp only [go_sem]
  refine seq_go ?_
  try simp only [go_sem]
  replace h := Option.some.inj h
  obtain rfl := h
  simp only [go_sem]
theorem i_hasPort_ok (a0 : List Agent) (a1 : Port) (r : Bool) (h : i_hasPort a0 a1 = some r) : AC Try.prog 100 [.ro (List.map Agent.ds a0), .agg (Port.avs a1)] (.bool r) := by
  unfold i_hasPort at h
  refine ac_fn mixed Try.func100 rfl rfl rfl (by kernel_rfl) (by kernel_rfl) ?_
  try simp only [go_sem]
  refine draw_i [] .fin (by kernel_rfl) ?_
  try simp only [go_sem]
  refine cond_i (fun hb1 => ?_) (fun hb1 => ?_)
  · replace h := ifT (c := (decide (0 ≤ a1.agent))) hb1 h
    try simp only [go_sem]
    refine cond_i (fun hb2 => ?_) (fun hb2 => ?_)
    · replace h := ifT (c := (decide (a1.agent < ((List.length a0 : Nat) : Int)))) hb2 h
      try simp only [go_sem]
      refine cond_i (fun hb3 => ?_) (fun hb3 => ?_)
      · replace h := ifT (c := (decide (0 ≤ a1.slot))) hb3 h
        try simp only [go_sem]
        replace h := bindE h
        obtain ⟨v2021, hv2021, h⟩ := h
        refine idx_m hv2021 (Agent.ds_len _) ?_
        try simp only [go_sem]
        refine seq_go ?_
        try simp only [go_sem]
        replace h := Option.some.inj h
        obtain rfl := h
        simp only [go_sem]
      · replace h := ifF (c := (decide (0 ≤ a1.slot))) hb3 h
        try simp only [go_sem]
        refine seq_go ?_
        try simp only [go_sem]
        replace h := Option.some.inj h
        obtain rfl := h
        simp only [go_sem]
    · replace h := ifF (c := (decide (a1.agent < ((List.length a0 : Nat) : Int)))) hb2 h
      try simp only [go_sem]
      refine seq_go ?_
      try simp only [go_sem]
      replace h := Option.some.inj h
      obtain rfl := h
      simp only [go_sem]
  · replace h := ifF (c := (decide (0 ≤ a1.agent))) hb1 h
    try simp only [go_sem]
    refine seq_go ?_
    try simp only [go_sem]
    replace h := Option.some.inj h
    obtain rfl := h
    simp only [go_sem]
theorem i_ValidNet_1_ok (a0 : Port) (a1 : Net) (r : Bool) (h : i_ValidNet_1 a0 a1 = some r) : AC Try.prog 98 [.agg (Port.avs a0), .rop (Net.avs a1) 0] (.bool r) := by
  unfold i_ValidNet_1 at h
  refine ac_fn mixed Try.func98 rfl rfl rfl (by kernel_rfl) (by kernel_rfl) ?_
  try simp only [go_sem]
  replace h := bindE h
  obtain ⟨v2001, hv2001, h⟩ := h
  refine call_i (i_Net_peer_ok _ _ _ hv2001) ?_
  try simp only [go_sem]
  refine draw_i [] .fin (by kernel_rfl) ?_
  try simp only [go_sem]
  refine cond_i (fun hb1 => ?_) (fun hb1 => ?_)
  · replace h := ifT (c := (decide (v2001.agent = a0.agent) && decide (v2001.slot = a0.slot))) hb1 h
    try simp only [go_sem]
    refine seq_go ?_
    try simp only [go_sem]
    replace h := Option.some.inj h
    obtain rfl := h
    simp only [go_sem]
  · replace h := ifF (c := (decide (v2001.agent = a0.agent) && decide (v2001.slot = a0.slot))) hb1 h
    try simp only [go_sem]
    replace h := bindE h
    obtain ⟨v3007, hv3007, h⟩ := h
    refine call_i (i_hasPort_ok _ _ _ hv3007) ?_
    try simp only [go_sem]
    refine cond_i (fun hb2 => ?_) (fun hb2 => ?_)
    · replace h := ifT (c := (!v3007)) hb2 h
      try simp only [go_sem]
      refine seq_go ?_
      try simp only [go_sem]
      replace h := Option.some.inj h
      obtain rfl := h
      simp only [go_sem]
    · replace h := ifF (c := (!v3007)) hb2 h
      try simp only [go_sem]
      replace h := bindE h
      obtain ⟨v3012, hv3012, h⟩ := h
      refine call_i (i_Net_peer_ok _ _ _ hv3012) ?_
      try simp only [go_sem]
      refine seq_go ?_
      try simp only [go_sem]
      replace h := Option.some.inj h
      obtain rfl := h
      simp only [go_sem]
theorem i_ValidNet_ok (a0 : Net) (r : Bool) (h : i_ValidNet a0 = some r) : AC Try.prog 48 [.agg (Net.avs a0)] (.bool r) := by
  unfold i_ValidNet at h
  refine ac_fn mixed Try.func48 rfl rfl rfl (by kernel_rfl) (by kernel_rfl) ?_
  try simp only [go_sem]
  replace h := bindE h
  obtain ⟨v2002, hv2002, h⟩ := h
  refine call_i (i_areAgents_ok _ _ hv2002) ?_
  try simp only [go_sem]
  refine cond_i (fun hb1 => ?_) (fun hb1 => ?_)
  · replace h := ifT (c := (!v2002)) hb1 h
    try simp only [go_sem]
    replace h := Option.some.inj h
    obtain rfl := h
    simp only [go_sem]
  · replace h := ifF (c := (!v2002)) hb1 h
    try simp only [go_sem]
    refine seq_go ?_
    try simp only [go_sem]
    replace h := bindE h
    obtain ⟨v4000, hv4000, h⟩ := h
    refine call_i (i_Net_ports_ok _ _ hv4000) ?_
    try simp only [go_sem]
    replace h := bindE h
    obtain ⟨v4002, hv4002, h⟩ := h
    refine call_i (g_ContainsFunc_simpl_Port_ok _ _ 98 [.rop [.ro (List.map Agent.ds a0.agents)] 0] (Still.of (by simp only [pureAs, pureA, Bool.and_true, Bool.true_and, Bool.and_self])) (fun y0 q hq => i_ValidNet_1_ok y0 _ q hq) _ hv4002) ?_
    try simp only [go_sem]
    replace h := Option.some.inj h
    obtain rfl := h
    simp only [go_sem]
theorem l_szPortS_ok (a0 : List Port) (a1 : Int) (r : Int) (h : l_szPortS a0 a1 = some r) : AC Try.prog 149 [.ro (List.map Port.ds a0), .int .i64 a1] (.int .i64 r) := by
  unfold l_szPortS at h
  refine ac_fn mixed Try.func149 rfl rfl rfl (by kernel_rfl) (by kernel_rfl) ?_
  try simp only [go_sem]
  refine cond_i (fun hb1 => ?_) (fun hb1 => ?_)
  · replace h := ifT (c := (decide ((IntKind.i64.wrap (a1 - ((List.length a0 : Nat) : Int))) < 0))) hb1 h
    try simp only [go_sem]
    replace h := Option.some.inj h
    obtain rfl := h
    simp only [go_sem]
  · replace h := ifF (c := (decide ((IntKind.i64.wrap (a1 - ((List.length a0 : Nat) : Int))) < 0))) hb1 h
    try simp only [go_sem]
    refine seq_go ?_
    try simp only [go_sem]
    replace h := Option.some.inj h
    obtain rfl := h
    simp only [go_sem]
theorem l_szAgent_ok (a0 : Agent) (a1 : Int) (r : Int) (h : l_szAgent a0 a1 = some r) : AC Try.prog 88 [.agg (Agent.avs a0), .int .i64 a1] (.int .i64 r) := by
  unfold l_szAgent at h
  refine ac_fn mixed Try.func88 rfl rfl rfl (by kernel_rfl) (by kernel_rfl) ?_
  try simp only [go_sem]
  replace h := bindE h
  obtain ⟨v2003, hv2003, h⟩ := h
  refine call_i (l_szInt64S_ok _ _ _ hv2003) ?_
  try simp only [go_sem]
  refine cond_i (fun hb1 => ?_) (fun hb1 => ?_)
  · replace h := ifT (c := (decide (v2003 < 0))) hb1 h
    try simp only [go_sem]
    replace h := Option.some.inj h
    obtain rfl := h
    simp only [go_sem]
  · replace h := ifF (c := (decide (v2003 < 0))) hb1 h
    try simp only [go_sem]
    refine seq_go ?_
    try simp only [go_sem]
    replace h := bindE h
    obtain ⟨v5003, hv5003, h⟩ := h
    refine call_i (l_szPortS_ok _ _ _ hv5003) ?_
    try simp only [go_sem]
    refine cond_i (fun hb2 => ?_) (fun hb2 => ?_)
    · replace h := ifT (c := (decide (v5003 < 0))) hb2 h
      try simp only [go_sem]
      replace h := Option.some.inj h
      obtain rfl := h
      simp only [go_sem]
    · replace h := ifF (c := (decide (v5003 < 0))) hb2 h
      try simp only [go_sem]
      refine seq_go ?_
      try simp only [go_sem]
      replace h := Option.some.inj h
      obtain rfl := h
      simp only [go_sem]
theorem l_szAgentS_l1_all (n : Nat) : (∀ (a0 : List Agent) (p0_0 : Int) (p0_1 : Int) (r : Int), l_szAgentS_l1 n a0 p0_0 p0_1 = some r → posF Try.prog Try.f43 [1, 1, 1, 0, 1, 0] (.int .i64 r) ⟨[(0, .ro (List.map Agent.ds a0)), (1, .int .i64 p0_0), (5, .int .i64 p0_1)], [], []⟩) := by
  induction n with
  | zero => exact ((fun _ _ _ _ h => by rw [l_szAgentS_l1] at h; cases h))
  | succ n ih =>
    have ih0 := ih
    · intro a0 p0_0 p0_1 r h
      rw [l_szAgentS_l1] at h
      refine posF_of rfl rfl ?_
      try simp only [go_sem]
      refine loop_i ?_
      try simp only [go_sem]
      refine cond_i (fun hb2 => ?_) (fun hb2 => ?_)
      · replace h := ifT (c := (decide (p0_1 < ((List.length a0 : Nat) : Int)))) hb2 h
        try simp only [go_sem]
        refine seq_go ?_
        try simp only [go_sem]
        replace h := bindE h
        obtain ⟨v8002, hv8002, h⟩ := h
        refine idx_m hv8002 (Agent.ds_len _) ?_
        try simp only [go_sem]
        replace h := bindE h
        obtain ⟨v8005, hv8005, h⟩ := h
        refine call_i (l_szAgent_ok _ _ _ hv8005) ?_
        try simp only [go_sem]
        refine cond_i (fun hb3 => ?_) (fun hb3 => ?_)
        · replace h := ifT (c := (decide (v8005 < 0))) hb3 h
          try simp only [go_sem]
          replace h := Option.some.inj h
          obtain rfl := h
          simp only [go_sem]
        · replace h := ifF (c := (decide (v8005 < 0))) hb3 h
          try simp only [go_sem]
          refine seq_go ?_
          try simp only [go_sem]
          have hj := posF_to rfl rfl (ih0 a0 v8005 (IntKind.i64.wrap (p0_1 + 1)) _ h)
          refine lp_to hj (.one ⟨_, .done _, [], [], ?_⟩)
          clear hj
          try simp only [go_sem]
      · replace h := ifF (c := (decide (p0_1 < ((List.length a0 : Nat) : Int)))) hb2 h
        try simp only [go_sem]
        refine seq_go ?_
        try simp only [go_sem]
        replace h := Option.some.inj h
        obtain rfl := h
        simp only [go_sem]
theorem l_szAgentS_l1_ok (n : Nat) : (∀ (a0 : List Agent) (p0_0 : Int) (p0_1 : Int) (r : Int), l_szAgentS_l1 n a0 p0_0 p0_1 = some r → posF Try.prog Try.f43 [1, 1, 1, 0, 1, 0] (.int .i64 r) ⟨[(0, .ro (List.map Agent.ds a0)), (1, .int .i64 p0_0), (5, .int .i64 p0_1)], [], []⟩) := (l_szAgentS_l1_all n)

theorem l_szAgentS_ok (a0 : List Agent) (a1 : Int) (r : Int) (h : l_szAgentS a0 a1 = some r) : AC Try.prog 43 [.ro (List.map Agent.ds a0), .int .i64 a1] (.int .i64 r) := by
  unfold l_szAgentS at h
  refine ac_fn mixed Try.func43 rfl rfl rfl (by kernel_rfl) (by kernel_rfl) ?_
  try simp only [go_sem]
  refine cond_i (fun hb1 => ?_) (fun hb1 => ?_)
  · replace h := ifT (c := (decide ((IntKind.i64.wrap (a1 - ((List.length a0 : Nat) : Int))) < 0))) hb1 h
    try simp only [go_sem]
    replace h := Option.some.inj h
    obtain rfl := h
    simp only [go_sem]
  · replace h := ifF (c := (decide ((IntKind.i64.wrap (a1 - ((List.length a0 : Nat) : Int))) < 0))) hb1 h
    try simp only [go_sem]
    refine seq_go ?_
    try simp only [go_sem]
    have hj := posF_to rfl rfl (l_szAgentS_l1_ok fuel a0 (IntKind.i64.wrap (a1 - ((List.length a0 : Nat) : Int))) 0 _ h)
    refine loop_to hj (.one ⟨_, .done _, [], [], ?_⟩)
    clear hj
    try simp only [go_sem]
theorem l_szNet_ok (a0 : Net) (a1 : Int) (r : Int) (h : l_szNet a0 a1 = some r) : AC Try.prog 8 [.agg (Net.avs a0), .int .i64 a1] (.int .i64 r) := by
  unfold l_szNet at h
  refine ac_fn mixed Try.func8 rfl rfl rfl (by kernel_rfl) (by kernel_rfl) ?_
  try simp only [go_sem]
  replace h := bindE h
  obtain ⟨v2003, hv2003, h⟩ := h
  refine call_i (l_szAgentS_ok _ _ _ hv2003) ?_
  try simp only [go_sem]
  refine cond_i (fun hb1 => ?_) (fun hb1 => ?_)
  · replace h := ifT (c := (decide (v2003 < 0))) hb1 h
    try simp only [go_sem]
    replace h := Option.some.inj h
    obtain rfl := h
    simp only [go_sem]
  · replace h := ifF (c := (decide (v2003 < 0))) hb1 h
    try simp only [go_sem]
    refine seq_go ?_
    try simp only [go_sem]
    replace h := Option.some.inj h
    obtain rfl := h
    simp only [go_sem]
theorem l_toPort_ok (a0 : Port) (r : Port) (h : l_toPort a0 = some r) : AC Try.prog 175 [.agg (Port.avs a0)] (.agg (Port.rv r)) := by
  unfold l_toPort at h
  refine ac_fn mixed Try.func175 rfl rfl rfl (by kernel_rfl) (by kernel_rfl) ?_
  try simp only [go_sem]
  replace h := Option.some.inj h
  obtain rfl := h
  simp only [go_sem]
theorem l_toPortS_l2_all (n : Nat) : (∀ (a0 : List Port) (p1_0 : List Port) (p1_1 : Int) (r : (List Port)), l_toPortS_l2 n a0 p1_0 p1_1 = some r → posF Try.prog Try.f153 [1, 1, 0, 1, 0] (.ow (some 2) (List.map Port.ds r)) ⟨[(0, .ro (List.map Port.ds a0)), (3, .own 1000001000), (4, .int .i64 p1_1)], [(1000001000, some ⟨List.map Port.ds p1_0, some 2, 0⟩)], []⟩) := by
  induction n with
  | zero => exact ((fun _ _ _ _ h => by rw [l_toPortS_l2] at h; cases h))
  | succ n ih =>
    have ih0 := ih
    · intro a0 p1_0 p1_1 r h
      rw [l_toPortS_l2] at h
      refine posF_of rfl rfl ?_
      try simp only [go_sem]
      refine loop_i ?_
      try simp only [go_sem]
      refine cond_i (fun hb1 => ?_) (fun hb1 => ?_)
      · replace h := ifT (c := (decide (p1_1 < ((List.length a0 : Nat) : Int)))) hb1 h
        try simp only [go_sem]
        refine seq_go ?_
        try simp only [go_sem]
        replace h := bindE h
        obtain ⟨v6004, hv6004, h⟩ := h
        refine idx_m hv6004 (Port.ds_len _) ?_
        try simp only [go_sem]
        replace h := bindE h
        obtain ⟨v6006, hv6006, h⟩ := h
        refine call_i (l_toPort_ok _ _ hv6006) ?_
        try simp only [go_sem]
        replace h := bindE h
        obtain ⟨v6007, hv6007, h⟩ := h
        refine idx_m hv6007 (Port.ds_len _) ?_
        try simp only [go_sem]
        replace h := bindE h
        obtain ⟨v6008_12, hv6008_12, h⟩ := h
        refine opt_i (row_m hv6007) ?_
        try simp only [go_sem]
        refine row_i (List.map Port.ds v6008_12) (by rw [← set1_some hv6008_12]; simp only [List.map_set, go_sem, Port.ds_eq]) ?_
        try simp only [go_sem]
        refine seq_go ?_
        try simp only [go_sem]
        have hj := posF_to rfl rfl (ih0 a0 v6008_12 (IntKind.i64.wrap (p1_1 + 1)) _ h)
        refine lp_to hj (.one ⟨_, .done _, [(1000001000, 1000001000)], [], ?_⟩)
        clear hj
        try simp only [go_sem]
      · replace h := ifF (c := (decide (p1_1 < ((List.length a0 : Nat) : Int)))) hb1 h
        try simp only [go_sem]
        refine seq_go ?_
        try simp only [go_sem]
        replace h := Option.some.inj h
        obtain rfl := h
        simp only [go_sem]
theorem l_toPortS_l2_ok (n : Nat) : (∀ (a0 : List Port) (p1_0 : List Port) (p1_1 : Int) (r : (List Port)), l_toPortS_l2 n a0 p1_0 p1_1 = some r → posF Try.prog Try.f153 [1, 1, 0, 1, 0] (.ow (some 2) (List.map Port.ds r)) ⟨[(0, .ro (List.map Port.ds a0)), (3, .own 1000001000), (4, .int .i64 p1_1)], [(1000001000, some ⟨List.map Port.ds p1_0, some 2, 0⟩)], []⟩) := (l_toPortS_l2_all n)

theorem l_toPortS_ok (a0 : List Port) (r : (List Port)) (h : l_toPortS a0 = some r) : AC Try.prog 153 [.ro (List.map Port.ds a0)] (.ow (some 2) (List.map Port.ds r)) := by
  unfold l_toPortS at h
  refine ac_fn mixed Try.func153 rfl rfl rfl (by kernel_rfl) (by kernel_rfl) ?_
  try simp only [go_sem]
  replace h := bindE h
  obtain ⟨v2002, hv2002, h⟩ := h
  have hq_ := rep_some hv2002
  obtain ⟨hv2002a, hv2002b, hv2002c⟩ := hq_
  refine and_i (by refine ⟨?_, ?_, ?_⟩ <;> omega) ?_
  try simp only [go_sem]
  refine row_i (List.map Port.ds v2002) (by rw [← hv2002c]; simp only [List.map_replicate, go_sem, Port.ds_eq]) ?_
  try simp only [go_sem]
  have hj := posF_to rfl rfl (l_toPortS_l2_ok fuel a0 v2002 0 _ h)
  refine loop_to hj (.one ⟨_, .done _, [(1000001000, 32032)], [], ?_⟩)
  clear hj
  try simp only [go_sem]
theorem l_toAgent_ok (a0 : Agent) (r : Agent) (h : l_toAgent a0 = some r) : AC Try.prog 94 [.agg (Agent.avs a0)] (.agg (Agent.rv r)) := by
  unfold l_toAgent at h
  refine ac_fn mixed Try.func94 rfl rfl rfl (by kernel_rfl) (by kernel_rfl) ?_
  try simp only [go_sem]
  replace h := bindE h
  obtain ⟨v6002, hv6002, h⟩ := h
  refine call_i (l_toInt64S_ok _ _ hv6002) ?_
  try simp only [go_sem]
  replace h := bindE h
  obtain ⟨v7002, hv7002, h⟩ := h
  refine call_i (l_toPortS_ok _ _ hv7002) ?_
  try simp only [go_sem]
  replace h := Option.some.inj h
  obtain rfl := h
  simp only [go_sem]
theorem l_toAgentS_l2_all (n : Nat) : (∀ (a0 : List Agent) (p1_0 : List Agent) (p1_1 : Int) (r : (List Agent)), l_toAgentS_l2 n a0 p1_0 p1_1 = some r → posF Try.prog Try.f47 [1, 1, 0, 1, 0] (.ow (some 5) (List.map Agent.ds r)) ⟨[(0, .ro (List.map Agent.ds a0)), (3, .own 1000001000), (4, .int .i64 p1_1)], [(1000001000, some ⟨List.map Agent.ds p1_0, some 5, 0⟩)], []⟩) := by
  induction n with
  | zero => exact ((fun _ _ _ _ h => by rw [l_toAgentS_l2] at h; cases h))
  | succ n ih =>
    have ih0 := ih
    · intro a0 p1_0 p1_1 r h
      rw [l_toAgentS_l2] at h
      refine posF_of rfl rfl ?_
      try simp only [go_sem]
      refine loop_i ?_
      try simp only [go_sem]
      refine cond_i (fun hb1 => ?_) (fun hb1 => ?_)
      · replace h := ifT (c := (decide (p1_1 < ((List.length a0 : Nat) : Int)))) hb1 h
        try simp only [go_sem]
        refine seq_go ?_
        try simp only [go_sem]
        replace h := bindE h
        obtain ⟨v6004, hv6004, h⟩ := h
        refine idx_m hv6004 (Agent.ds_len _) ?_
        try simp only [go_sem]
        replace h := bindE h
        obtain ⟨v6006, hv6006, h⟩ := h
        refine call_i (l_toAgent_ok _ _ hv6006) ?_
        try simp only [go_sem]
        replace h := bindE h
        obtain ⟨v6007, hv6007, h⟩ := h
        refine idx_m hv6007 (Agent.ds_len _) ?_
        try simp only [go_sem]
        replace h := bindE h
        obtain ⟨v6008_12, hv6008_12, h⟩ := h
        refine opt_i (row_m hv6007) ?_
        try simp only [go_sem]
        refine row_i (List.map Agent.ds v6008_12) (by rw [← set1_some hv6008_12]; simp only [List.map_set, go_sem, Agent.ds_eq]) ?_
        try simp only [go_sem]
        refine seq_go ?_
        try simp only [go_sem]
        have hj := posF_to rfl rfl (ih0 a0 v6008_12 (IntKind.i64.wrap (p1_1 + 1)) _ h)
        refine lp_to hj (.one ⟨_, .done _, [(1000001000, 1000001000)], [], ?_⟩)
        clear hj
        try simp only [go_sem]
      · replace h := ifF (c := (decide (p1_1 < ((List.length a0 : Nat) : Int)))) hb1 h
        try simp only [go_sem]
        refine seq_go ?_
        try simp only [go_sem]
        replace h := Option.some.inj h
        obtain rfl := h
        simp only [go_sem]
theorem l_toAgentS_l2_ok (n : Nat) : (∀ (a0 : List Agent) (p1_0 : List Agent) (p1_1 : Int) (r : (List Agent)), l_toAgentS_l2 n a0 p1_0 p1_1 = some r → posF Try.prog Try.f47 [1, 1, 0, 1, 0] (.ow (some 5) (List.map Agent.ds r)) ⟨[(0, .ro (List.map Agent.ds a0)), (3, .own 1000001000), (4, .int .i64 p1_1)], [(1000001000, some ⟨List.map Agent.ds p1_0, some 5, 0⟩)], []⟩) := (l_toAgentS_l2_all n)

theorem l_toAgentS_ok (a0 : List Agent) (r : (List Agent)) (h : l_toAgentS a0 = some r) : AC Try.prog 47 [.ro (List.map Agent.ds a0)] (.ow (some 5) (List.map Agent.ds r)) := by
  unfold l_toAgentS at h
  refine ac_fn mixed Try.func47 rfl rfl rfl (by kernel_rfl) (by kernel_rfl) ?_
  try simp only [go_sem]
  replace h := bindE h
  obtain ⟨v2002, hv2002, h⟩ := h
  have hq_ := rep_some hv2002
  obtain ⟨hv2002a, hv2002b, hv2002c⟩ := hq_
  refine and_i (by refine ⟨?_, ?_, ?_⟩ <;> omega) ?_
  try simp only [go_sem]
  refine row_i (List.map Agent.ds v2002) (by rw [← hv2002c]; simp only [List.map_replicate, go_sem, Agent.ds_eq]) ?_
  try simp only [go_sem]
  have hj := posF_to rfl rfl (l_toAgentS_l2_ok fuel a0 v2002 0 _ h)
  refine loop_to hj (.one ⟨_, .done _, [(1000001000, 32032)], [], ?_⟩)
  clear hj
  try simp only [go_sem]
theorem l_toNet_ok (a0 : Net) (r : Net) (h : l_toNet a0 = some r) : AC Try.prog 10 [.agg (Net.avs a0)] (.agg (Net.rv r)) := by
  unfold l_toNet at h
  refine ac_fn mixed Try.func10 rfl rfl rfl (by kernel_rfl) (by kernel_rfl) ?_
  try simp only [go_sem]
  replace h := bindE h
  obtain ⟨v3002, hv3002, h⟩ := h
  refine call_i (l_toAgentS_ok _ _ hv3002) ?_
  try simp only [go_sem]
  replace h := Option.some.inj h
  obtain rfl := h
  simp only [go_sem]
theorem l_eqPort_ok (a0 : Port) (a1 : Port) (r : Bool) (h : l_eqPort a0 a1 = some r) : AC Try.prog 183 [.agg (Port.avs a0), .agg (Port.avs a1)] (.bool r) := by
  unfold l_eqPort at h
  refine ac_fn mixed Try.func183 rfl rfl rfl (by kernel_rfl) (by kernel_rfl) ?_
  try simp only [go_sem]
  refine cond_i (fun hb1 => ?_) (fun hb1 => ?_)
  · replace h := ifT (c := (!decide (a0.agent = a1.agent))) hb1 h
    try simp only [go_sem]
    replace h := Option.some.inj h
    obtain rfl := h
    simp only [go_sem]
  · replace h := ifF (c := (!decide (a0.agent = a1.agent))) hb1 h
    try simp only [go_sem]
    refine seq_go ?_
    try simp only [go_sem]
    refine cond_i (fun hb2 => ?_) (fun hb2 => ?_)
    · replace h := ifT (c := (!decide (a0.slot = a1.slot))) hb2 h
      try simp only [go_sem]
      replace h := Option.some.inj h
      obtain rfl := h
      simp only [go_sem]
    · replace h := ifF (c := (!decide (a0.slot = a1.slot))) hb2 h
      try simp only [go_sem]
      refine seq_go ?_
      try simp only [go_sem]
      replace h := Option.some.inj h
      obtain rfl := h
      simp only [go_sem]
theorem l_eqPortS_l1_all (n : Nat) : (∀ (a0 : List Port) (a1 : List Port) (p0_0 : Int) (r : Bool), l_eqPortS_l1 n a0 a1 p0_0 = some r → posF Try.prog Try.f157 [1, 1, 0, 1, 0] (.bool r) ⟨[(0, .ro (List.map Port.ds a0)), (1, .ro (List.map Port.ds a1)), (5, .int .i64 p0_0)], [], []⟩) := by
  induction n with
  | zero => exact ((fun _ _ _ _ h => by rw [l_eqPortS_l1] at h; cases h))
  | succ n ih =>
    have ih0 := ih
    · intro a0 a1 p0_0 r h
      rw [l_eqPortS_l1] at h
      refine posF_of rfl rfl ?_
      try simp only [go_sem]
      refine loop_i ?_
      try simp only [go_sem]
      refine cond_i (fun hb2 => ?_) (fun hb2 => ?_)
      · replace h := ifT (c := (decide (p0_0 < ((List.length a0 : Nat) : Int)))) hb2 h
        try simp only [go_sem]
        refine seq_go ?_
        try simp only [go_sem]
        refine draw_i [] .fin (by kernel_rfl) ?_
        try simp only [go_sem]
        replace h := bindE h
        obtain ⟨v7002, hv7002, h⟩ := h
        refine idx_m hv7002 (Port.ds_len _) ?_
        try simp only [go_sem]
        replace h := bindE h
        obtain ⟨v7006, hv7006, h⟩ := h
        refine idx_m hv7006 (Port.ds_len _) ?_
        try simp only [go_sem]
        replace h := bindE h
        obtain ⟨v7008, hv7008, h⟩ := h
        refine call_i (l_eqPort_ok _ _ _ hv7008) ?_
        try simp only [go_sem]
        refine seq_go ?_
        try simp only [go_sem]
        refine cond_i (fun hb3 => ?_) (fun hb3 => ?_)
        · replace h := ifT (c := (!v7008)) hb3 h
          try simp only [go_sem]
          replace h := Option.some.inj h
          obtain rfl := h
          simp only [go_sem]
        · replace h := ifF (c := (!v7008)) hb3 h
          try simp only [go_sem]
          refine seq_go ?_
          try simp only [go_sem]
          have hj := posF_to rfl rfl (ih0 a0 a1 (IntKind.i64.wrap (p0_0 + 1)) _ h)
          refine lp_to hj (.one ⟨_, .done _, [], [], ?_⟩)
          clear hj
          try simp only [go_sem]
      · replace h := ifF (c := (decide (p0_0 < ((List.length a0 : Nat) : Int)))) hb2 h
        try simp only [go_sem]
        refine seq_go ?_
        try simp only [go_sem]
        replace h := Option.some.inj h
        obtain rfl := h
        simp only [go_sem]
theorem l_eqPortS_l1_ok (n : Nat) : (∀ (a0 : List Port) (a1 : List Port) (p0_0 : Int) (r : Bool), l_eqPortS_l1 n a0 a1 p0_0 = some r → posF Try.prog Try.f157 [1, 1, 0, 1, 0] (.bool r) ⟨[(0, .ro (List.map Port.ds a0)), (1, .ro (List.map Port.ds a1)), (5, .int .i64 p0_0)], [], []⟩) := (l_eqPortS_l1_all n)

theorem l_eqPortS_ok (a0 : List Port) (a1 : List Port) (r : Bool) (h : l_eqPortS a0 a1 = some r) : AC Try.prog 157 [.ro (List.map Port.ds a0), .ro (List.map Port.ds a1)] (.bool r) := by
  unfold l_eqPortS at h
  refine ac_fn mixed Try.func157 rfl rfl rfl (by kernel_rfl) (by kernel_rfl) ?_
  try simp only [go_sem]
  refine cond_i (fun hb1 => ?_) (fun hb1 => ?_)
  · replace h := ifT (c := (!decide (((List.length a0 : Nat) : Int) = ((List.length a1 : Nat) : Int)))) hb1 h
    try simp only [go_sem]
    replace h := Option.some.inj h
    obtain rfl := h
    simp only [go_sem]
  · replace h := ifF (c := (!decide (((List.length a0 : Nat) : Int) = ((List.length a1 : Nat) : Int)))) hb1 h
    try simp only [go_sem]
    refine seq_go ?_
    try simp only [go_sem]
    have hj := posF_to rfl rfl (l_eqPortS_l1_ok fuel a0 a1 0 _ h)
    refine loop_to hj (.one ⟨_, .done _, [], [], ?_⟩)
    clear hj
    try simp only [go_sem]
theorem l_eqAgent_ok (a0 : Agent) (a1 : Agent) (r : Bool) (h : l_eqAgent a0 a1 = some r) : AC Try.prog 106 [.agg (Agent.avs a0), .agg (Agent.avs a1)] (.bool r) := by
  unfold l_eqAgent at h
  refine ac_fn mixed Try.func106 rfl rfl rfl (by kernel_rfl) (by kernel_rfl) ?_
  try simp only [go_sem]
  refine cond_i (fun hb1 => ?_) (fun hb1 => ?_)
  · replace h := ifT (c := (!decide (a0.kind = a1.kind))) hb1 h
    try simp only [go_sem]
    replace h := Option.some.inj h
    obtain rfl := h
    simp only [go_sem]
  · replace h := ifF (c := (!decide (a0.kind = a1.kind))) hb1 h
    try simp only [go_sem]
    refine seq_go ?_
    try simp only [go_sem]
    refine cond_i (fun hb2 => ?_) (fun hb2 => ?_)
    · replace h := ifT (c := (!decide (a0.level = a1.level))) hb2 h
      try simp only [go_sem]
      replace h := Option.some.inj h
      obtain rfl := h
      simp only [go_sem]
    · replace h := ifF (c := (!decide (a0.level = a1.level))) hb2 h
      try simp only [go_sem]
      refine seq_go ?_
      try simp only [go_sem]
      refine cond_i (fun hb3 => ?_) (fun hb3 => ?_)
      · replace h := ifT (c := (!decide (a0.value = a1.value))) hb3 h
        try simp only [go_sem]
        replace h := Option.some.inj h
        obtain rfl := h
        simp only [go_sem]
      · replace h := ifF (c := (!decide (a0.value = a1.value))) hb3 h
        try simp only [go_sem]
        refine seq_go ?_
        try simp only [go_sem]
        replace h := bindE h
        obtain ⟨v8004, hv8004, h⟩ := h
        refine call_i (l_eqInt64S_ok _ _ _ hv8004) ?_
        try simp only [go_sem]
        refine cond_i (fun hb4 => ?_) (fun hb4 => ?_)
        · replace h := ifT (c := (!v8004)) hb4 h
          try simp only [go_sem]
          replace h := Option.some.inj h
          obtain rfl := h
          simp only [go_sem]
        · replace h := ifF (c := (!v8004)) hb4 h
          try simp only [go_sem]
          refine seq_go ?_
          try simp only [go_sem]
          replace h := bindE h
          obtain ⟨v10004, hv10004, h⟩ := h
          refine call_i (l_eqPortS_ok _ _ _ hv10004) ?_
          try simp only [go_sem]
          refine cond_i (fun hb5 => ?_) (fun hb5 => ?_)
          · replace h := ifT (c := (!v10004)) hb5 h
            try simp only [go_sem]
            replace h := Option.some.inj h
            obtain rfl := h
            simp only [go_sem]
          · replace h := ifF (c := (!v10004)) hb5 h
            try simp only [go_sem]
            refine seq_go ?_
            try simp only [go_sem]
            replace h := Option.some.inj h
            obtain rfl := h
            simp only [go_sem]
theorem l_eqAgentS_l1_all (n : Nat) : (∀ (a0 : List Agent) (a1 : List Agent) (p0_0 : Int) (r : Bool), l_eqAgentS_l1 n a0 a1 p0_0 = some r → posF Try.prog Try.f51 [1, 1, 0, 1, 0] (.bool r) ⟨[(0, .ro (List.map Agent.ds a0)), (1, .ro (List.map Agent.ds a1)), (5, .int .i64 p0_0)], [], []⟩) := by
  induction n with
  | zero => exact ((fun _ _ _ _ h => by rw [l_eqAgentS_l1] at h; cases h))
  | succ n ih =>
    have ih0 := ih
    · intro a0 a1 p0_0 r h
      rw [l_eqAgentS_l1] at h
      refine posF_of rfl rfl ?_
      try simp only [go_sem]
      refine loop_i ?_
      try simp only [go_sem]
      refine cond_i (fun hb2 => ?_) (fun hb2 => ?_)
      · replace h := ifT (c := (decide (p0_0 < ((List.length a0 : Nat) : Int)))) hb2 h
        try simp only [go_sem]
        refine seq_go ?_
        try simp only [go_sem]
        refine draw_i [] .fin (by kernel_rfl) ?_
        try simp only [go_sem]
        replace h := bindE h
        obtain ⟨v7002, hv7002, h⟩ := h
        refine idx_m hv7002 (Agent.ds_len _) ?_
        try simp only [go_sem]
        replace h := bindE h
        obtain ⟨v7006, hv7006, h⟩ := h
        refine idx_m hv7006 (Agent.ds_len _) ?_
        try simp only [go_sem]
        replace h := bindE h
        obtain ⟨v7008, hv7008, h⟩ := h
        refine call_i (l_eqAgent_ok _ _ _ hv7008) ?_
        try simp only [go_sem]
        refine seq_go ?_
        try simp only [go_sem]
        refine cond_i (fun hb3 => ?_) (fun hb3 => ?_)
        · replace h := ifT (c := (!v7008)) hb3 h
          try simp only [go_sem]
          replace h := Option.some.inj h
          obtain rfl := h
          simp only [go_sem]
        · replace h := ifF (c := (!v7008)) hb3 h
          try simp only [go_sem]
          refine seq_go ?_
          try simp only [go_sem]
          have hj := posF_to rfl rfl (ih0 a0 a1 (IntKind.i64.wrap (p0_0 + 1)) _ h)
          refine lp_to hj (.one ⟨_, .done _, [], [], ?_⟩)
          clear hj
          try simp only [go_sem]
      · replace h := ifF (c := (decide (p0_0 < ((List.length a0 : Nat) : Int)))) hb2 h
        try simp only [go_sem]
        refine seq_go ?_
        try simp only [go_sem]
        replace h := Option.some.inj h
        obtain rfl := h
        simp only [go_sem]
theorem l_eqAgentS_l1_ok (n : Nat) : (∀ (a0 : List Agent) (a1 : List Agent) (p0_0 : Int) (r : Bool), l_eqAgentS_l1 n a0 a1 p0_0 = some r → posF Try.prog Try.f51 [1, 1, 0, 1, 0] (.bool r) ⟨[(0, .ro (List.map Agent.ds a0)), (1, .ro (List.map Agent.ds a1)), (5, .int .i64 p0_0)], [], []⟩) := (l_eqAgentS_l1_all n)

theorem l_eqAgentS_ok (a0 : List Agent) (a1 : List Agent) (r : Bool) (h : l_eqAgentS a0 a1 = some r) : AC Try.prog 51 [.ro (List.map Agent.ds a0), .ro (List.map Agent.ds a1)] (.bool r) := by
  unfold l_eqAgentS at h
  refine ac_fn mixed Try.func51 rfl rfl rfl (by kernel_rfl) (by kernel_rfl) ?_
  try simp only [go_sem]
  refine cond_i (fun hb1 => ?_) (fun hb1 => ?_)
  · replace h := ifT (c := (!decide (((List.length a0 : Nat) : Int) = ((List.length a1 : Nat) : Int)))) hb1 h
    try simp only [go_sem]
    replace h := Option.some.inj h
    obtain rfl := h
    simp only [go_sem]
  · replace h := ifF (c := (!decide (((List.length a0 : Nat) : Int) = ((List.length a1 : Nat) : Int)))) hb1 h
    try simp only [go_sem]
    refine seq_go ?_
    try simp only [go_sem]
    have hj := posF_to rfl rfl (l_eqAgentS_l1_ok fuel a0 a1 0 _ h)
    refine loop_to hj (.one ⟨_, .done _, [], [], ?_⟩)
    clear hj
    try simp only [go_sem]
theorem l_eqNet_ok (a0 : Net) (a1 : Net) (r : Bool) (h : l_eqNet a0 a1 = some r) : AC Try.prog 13 [.agg (Net.avs a0), .agg (Net.avs a1)] (.bool r) := by
  unfold l_eqNet at h
  refine ac_fn mixed Try.func13 rfl rfl rfl (by kernel_rfl) (by kernel_rfl) ?_
  try simp only [go_sem]
  replace h := bindE h
  obtain ⟨v2004, hv2004, h⟩ := h
  refine call_i (l_eqAgentS_ok _ _ _ hv2004) ?_
  try simp only [go_sem]
  refine cond_i (fun hb1 => ?_) (fun hb1 => ?_)
  · replace h := ifT (c := (!v2004)) hb1 h
    try simp only [go_sem]
    replace h := Option.some.inj h
    obtain rfl := h
    simp only [go_sem]
  · replace h := ifF (c := (!v2004)) hb1 h
    try simp only [go_sem]
    refine seq_go ?_
    try simp only [go_sem]
    replace h := Option.some.inj h
    obtain rfl := h
    simp only [go_sem]
theorem l_markPortS_l1_all (n : Nat) : (∀ (p0_0 : List Port) (p0_1 : Int) (p0_2 : Int) (z1 : Option Nat) (r : Int × (List Port)), l_markPortS_l1 n p0_0 p0_1 p0_2 = some r → posG Try.prog Try.f107 [1, 0, 1, 0] (.int .i64 r.1) [(1, ⟨List.map Port.ds r.2, z1, 0⟩)] [] ⟨[(0, .own 1), (1, .int .i64 p0_1), (5, .int .i64 p0_2)], [(1, some ⟨List.map Port.ds p0_0, z1, 0⟩)], []⟩) := by
  induction n with
  | zero => exact ((fun _ _ _ _ _ h => by rw [l_markPortS_l1] at h; cases h))
  | succ n ih =>
    have ih0 := ih
    · intro p0_0 p0_1 p0_2 z1 r h
      rw [l_markPortS_l1] at h
      refine posG_of rfl rfl ?_
      try simp only [go_sem]
      refine loop_i ?_
      try simp only [go_sem]
      refine cond_i (fun hb1 => ?_) (fun hb1 => ?_)
      · replace h := ifT (c := (decide (p0_2 < ((List.length p0_0 : Nat) : Int)))) hb1 h
        try simp only [go_sem]
        refine seq_go ?_
        try simp only [go_sem]
        replace h := bindE h
        obtain ⟨v5003, hv5003, h⟩ := h
        refine idx_m hv5003 (Port.ds_len _) ?_
        try simp only [go_sem]
        replace h := bindE h
        obtain ⟨v5005_15, hv5005_15, h⟩ := h
        refine opt_i (row_m hv5003) ?_
        try simp only [go_sem]
        refine row_i (List.map Port.ds v5005_15) (by rw [← set1_some hv5005_15]; simp only [List.map_set, go_sem, Port.ds_eq]) ?_
        try simp only [go_sem]
        replace h := bindE h
        obtain ⟨v7003, hv7003, h⟩ := h
        refine idx_m hv7003 (Port.ds_len _) ?_
        try simp only [go_sem]
        replace h := bindE h
        obtain ⟨v7005_16, hv7005_16, h⟩ := h
        refine opt_i (row_m hv7003) ?_
        try simp only [go_sem]
        refine row_i (List.map Port.ds v7005_16) (by rw [← set1_some hv7005_16]; simp only [List.map_set, go_sem, Port.ds_eq]) ?_
        try simp only [go_sem]
        refine seq_go ?_
        try simp only [go_sem]
        have hj := posG_to rfl rfl (ih0 v7005_16 (IntKind.i64.wrap ((IntKind.i64.wrap (p0_1 + 1)) + 1)) (IntKind.i64.wrap (p0_2 + 1)) z1 _ h)
        refine lp_to hj (.one ⟨_, .done _, [(1, 1)], [], ?_⟩)
        clear hj
        try simp only [go_sem]
      · replace h := ifF (c := (decide (p0_2 < ((List.length p0_0 : Nat) : Int)))) hb1 h
        try simp only [go_sem]
        refine seq_go ?_
        try simp only [go_sem]
        replace h := Option.some.inj h
        obtain rfl := h
        refine ret_i (.done _) [(1, 1)] [] ?_
        simp only [go_sem]
theorem l_markPortS_l1_ok (n : Nat) : (∀ (p0_0 : List Port) (p0_1 : Int) (p0_2 : Int) (z1 : Option Nat) (r : Int × (List Port)), l_markPortS_l1 n p0_0 p0_1 p0_2 = some r → posG Try.prog Try.f107 [1, 0, 1, 0] (.int .i64 r.1) [(1, ⟨List.map Port.ds r.2, z1, 0⟩)] [] ⟨[(0, .own 1), (1, .int .i64 p0_1), (5, .int .i64 p0_2)], [(1, some ⟨List.map Port.ds p0_0, z1, 0⟩)], []⟩) := (l_markPortS_l1_all n)

theorem l_markPortS_ok (a0 : List Port) (a1 : Int) (z1 : Option Nat) (r : Int × (List Port)) (h : l_markPortS a0 a1 = some r) : AG Try.prog 107 [.own 1, .int .i64 a1] [(1, ⟨List.map Port.ds a0, z1, 0⟩)] [] (.int .i64 r.1) [(1, ⟨List.map Port.ds r.2, z1, 0⟩)] [] := by
  unfold l_markPortS at h
  refine ag_fn mixed Try.func107 rfl rfl rfl (by kernel_rfl) (by kernel_rfl) ?_
  try simp only [go_sem]
  have hj := posG_to rfl rfl (l_markPortS_l1_ok fuel a0 a1 0 z1 _ h)
  refine loop_to hj (.one ⟨_, .done _, [(1, 1)], [], ?_⟩)
  clear hj
  try simp only [go_sem]
theorem l_markAgentS_l1_all (n : Nat) : (∀ (p0_0 : List Agent) (p0_1 : Int) (p0_2 : Int) (z1 : Option Nat) (r : Int × (List Agent)), l_markAgentS_l1 n p0_0 p0_1 p0_2 = some r → posG Try.prog Try.f52 [1, 0, 1, 0] (.int .i64 r.1) [(1, ⟨List.map Agent.ds r.2, z1, 0⟩)] [] ⟨[(0, .own 1), (1, .int .i64 p0_1), (5, .int .i64 p0_2)], [(1, some ⟨List.map Agent.ds p0_0, z1, 0⟩)], []⟩) := by
  induction n with
  | zero => exact ((fun _ _ _ _ _ h => by rw [l_markAgentS_l1] at h; cases h))
  | succ n ih =>
    have ih0 := ih
    · intro p0_0 p0_1 p0_2 z1 r h
      rw [l_markAgentS_l1] at h
      refine posG_of rfl rfl ?_
      try simp only [go_sem]
      refine loop_i ?_
      try simp only [go_sem]
      refine cond_i (fun hb1 => ?_) (fun hb1 => ?_)
      · replace h := ifT (c := (decide (p0_2 < ((List.length p0_0 : Nat) : Int)))) hb1 h
        try simp only [go_sem]
        refine seq_go ?_
        try simp only [go_sem]
        replace h := bindE h
        obtain ⟨v5003, hv5003, h⟩ := h
        refine idx_m hv5003 (Agent.ds_len _) ?_
        try simp only [go_sem]
        replace h := bindE h
        obtain ⟨v5005_36, hv5005_36, h⟩ := h
        refine opt_i (row_m hv5003) ?_
        try simp only [go_sem]
        refine row_i (List.map Agent.ds v5005_36) (by rw [← set1_some hv5005_36]; simp only [List.map_set, go_sem, Agent.ds_eq]) ?_
        try simp only [go_sem]
        replace h := bindE h
        obtain ⟨v7003, hv7003, h⟩ := h
        refine idx_m hv7003 (Agent.ds_len _) ?_
        try simp only [go_sem]
        replace h := bindE h
        obtain ⟨v7005_37, hv7005_37, h⟩ := h
        refine opt_i (row_m hv7003) ?_
        try simp only [go_sem]
        refine row_i (List.map Agent.ds v7005_37) (by rw [← set1_some hv7005_37]; simp only [List.map_set, go_sem, Agent.ds_eq]) ?_
        try simp only [go_sem]
        replace h := bindE h
        obtain ⟨v9003, hv9003, h⟩ := h
        refine idx_m hv9003 (Agent.ds_len _) ?_
        try simp only [go_sem]
        replace h := bindE h
        obtain ⟨v9005_38, hv9005_38, h⟩ := h
        refine opt_i (row_m hv9003) ?_
        try simp only [go_sem]
        refine row_i (List.map Agent.ds v9005_38) (by rw [← set1_some hv9005_38]; simp only [List.map_set, go_sem, Agent.ds_eq]) ?_
        try simp only [go_sem]
        replace h := bindE h
        obtain ⟨v11002, hv11002, h⟩ := h
        refine idx_m hv11002 (Agent.ds_len _) ?_
        try simp only [go_sem]
        refine opt_i (row_m hv11002) ?_
        try simp only [go_sem]
        replace h := bindE h
        obtain ⟨v11006, hv11006, h⟩ := h
        replace h := bindE h
        obtain ⟨v11006_39, hv11006_39, h⟩ := h
        refine call_g ⟨[(3000176096, .sub 1 0 [(5, Int.toNat p0_2, 3)], none)], [(1, 3000176096)], [], [], [], true⟩ (by kernel_rfl) (l_markInt64S_ok _ _ none _ hv11006) (by kernel_rfl) ?_
        try simp only [go_sem]
        refine opt_i (getP_1 (r := List.map i64D v11002.data) (row_m hv11002) (Agent.ds_len _) (by simp only [go_sem, Agent.ds_eq])) ?_
        try simp only [go_sem]
        refine row_i ((List.map Agent.ds v9005_38).set (Int.toNat p0_2) [.int .i64 v11002.kind, .int .i64 v11002.level, .int .i64 v11002.value, .gone, .sl (List.map Port.ds v11002.ports)]) ((putR_1 (row_m hv11002) (d' := .sl (List.map i64D v11002.data)) (by simp only [go_sem, Agent.ds_eq])).trans (by simp only [go_sem, Agent.ds_eq])) ?_
        try simp only [go_sem]
        refine and_i (getC_1 (set_at (row_m hv11002)) rfl rfl) ?_
        try simp only [go_sem]
        refine row_i (List.map Agent.ds v11006_39) (((putR_1 (set_at (row_m hv11002)) (d' := .gone) rfl).trans (List.set_set ..)).trans (by rw [← set1_some hv11006_39]; simp only [List.map_set, go_sem, Agent.ds_eq])) ?_
        try simp only [go_sem]
        replace h := bindE h
        obtain ⟨v12002, hv12002, h⟩ := h
        refine idx_m hv12002 (Agent.ds_len _) ?_
        try simp only [go_sem]
        refine opt_i (row_m hv12002) ?_
        try simp only [go_sem]
        replace h := bindE h
        obtain ⟨v12006, hv12006, h⟩ := h
        replace h := bindE h
        obtain ⟨v12006_40, hv12006_40, h⟩ := h
        refine call_g ⟨[(3000192096, .sub 1 0 [(5, Int.toNat p0_2, 4)], none)], [(1, 3000192096)], [], [], [], true⟩ (by kernel_rfl) (l_markPortS_ok _ _ none _ hv12006) (by kernel_rfl) ?_
        try simp only [go_sem]
        refine opt_i (getP_1 (r := List.map Port.ds v12002.ports) (row_m hv12002) (Agent.ds_len _) (by simp only [go_sem, Agent.ds_eq])) ?_
        try simp only [go_sem]
        refine row_i ((List.map Agent.ds v11006_39).set (Int.toNat p0_2) [.int .i64 v12002.kind, .int .i64 v12002.level, .int .i64 v12002.value, .sl (List.map i64D v12002.data), .gone]) ((putR_1 (row_m hv12002) (d' := .sl (List.map Port.ds v12002.ports)) (by simp only [go_sem, Agent.ds_eq])).trans (by simp only [go_sem, Agent.ds_eq])) ?_
        try simp only [go_sem]
        refine and_i (getC_1 (set_at (row_m hv12002)) rfl rfl) ?_
        try simp only [go_sem]
        refine row_i (List.map Agent.ds v12006_40) (((putR_1 (set_at (row_m hv12002)) (d' := .gone) rfl).trans (List.set_set ..)).trans (by rw [← set1_some hv12006_40]; simp only [List.map_set, go_sem, Agent.ds_eq])) ?_
        try simp only [go_sem]
        refine seq_go ?_
        try simp only [go_sem]
        have hj := posG_to rfl rfl (ih0 v12006_40 v12006.1 (IntKind.i64.wrap (p0_2 + 1)) z1 _ h)
        refine lp_to hj (.one ⟨_, .done _, [(1, 1)], [], ?_⟩)
        clear hj
        try simp only [go_sem]
      · replace h := ifF (c := (decide (p0_2 < ((List.length p0_0 : Nat) : Int)))) hb1 h
        try simp only [go_sem]
        refine seq_go ?_
        try simp only [go_sem]
        replace h := Option.some.inj h
        obtain rfl := h
        refine ret_i (.done _) [(1, 1)] [] ?_
        simp only [go_sem]
theorem l_markAgentS_l1_ok (n : Nat) : (∀ (p0_0 : List Agent) (p0_1 : Int) (p0_2 : Int) (z1 : Option Nat) (r : Int × (List Agent)), l_markAgentS_l1 n p0_0 p0_1 p0_2 = some r → posG Try.prog Try.f52 [1, 0, 1, 0] (.int .i64 r.1) [(1, ⟨List.map Agent.ds r.2, z1, 0⟩)] [] ⟨[(0, .own 1), (1, .int .i64 p0_1), (5, .int .i64 p0_2)], [(1, some ⟨List.map Agent.ds p0_0, z1, 0⟩)], []⟩) := (l_markAgentS_l1_all n)

theorem l_markAgentS_ok (a0 : List Agent) (a1 : Int) (z1 : Option Nat) (r : Int × (List Agent)) (h : l_markAgentS a0 a1 = some r) : AG Try.prog 52 [.own 1, .int .i64 a1] [(1, ⟨List.map Agent.ds a0, z1, 0⟩)] [] (.int .i64 r.1) [(1, ⟨List.map Agent.ds r.2, z1, 0⟩)] [] := by
  unfold l_markAgentS at h
  refine ag_fn mixed Try.func52 rfl rfl rfl (by kernel_rfl) (by kernel_rfl) ?_
  try simp only [go_sem]
  have hj := posG_to rfl rfl (l_markAgentS_l1_ok fuel a0 a1 0 z1 _ h)
  refine loop_to hj (.one ⟨_, .done _, [(1, 1)], [], ?_⟩)
  clear hj
  try simp only [go_sem]
theorem l_markNet_ok (a0 : Net) (a1 : Int) (z1 : Option Nat) (r : Int × (List Agent)) (h : l_markNet a0 a1 = some r) : AG Try.prog 14 [.agg [.own 1], .int .i64 a1] [(1, ⟨List.map Agent.ds a0.agents, z1, 0⟩)] [] (.int .i64 r.1) [(1, ⟨List.map Agent.ds r.2, z1, 0⟩)] [] := by
  unfold l_markNet at h
  refine ag_fn mixed Try.func14 rfl rfl rfl (by kernel_rfl) (by kernel_rfl) ?_
  try simp only [go_sem]
  replace h := bindE h
  obtain ⟨v2003, hv2003, h⟩ := h
  refine call_g ⟨[], [(1, 1)], [], [], [], true⟩ (by kernel_rfl) (l_markAgentS_ok _ _ z1 _ hv2003) (by kernel_rfl) ?_
  try simp only [go_sem]
  replace h := Option.some.inj h
  obtain rfl := h
  refine ret_i (.done _) [(1, 1)] [] ?_
  simp only [go_sem]
end Go.Proofs.Ytocpkbclcnjejaa.Ab
