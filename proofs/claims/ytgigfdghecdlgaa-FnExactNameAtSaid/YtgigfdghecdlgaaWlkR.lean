/-
  The functions do what their models say. Printed by wip/ab/gen.py.
-/
import Derived.Test.YtgigfdghecdlgaaModR
import Derived.Test.YtgigfdghecdlgaaTi2
import Derived.Test.YtgigfdghecdlgaaWlkT
namespace Go.Proofs.Ytgigfdghecdlgaa.Ab
set_option linter.unusedVariables false
set_option linter.unusedSimpArgs false
set_option maxRecDepth 20000
set_option maxHeartbeats 4000000
open Go.RowKit

theorem i_redexKind_j2_ok (p1_0 : Bool) (r : Int) (h : i_redexKind_j2 p1_0 = some r) : posF Try.prog Try.f52 [1, 1, 1, 0, 1, 0, 1, 1, 1, 0, 1, 0, 1, 1, 1] (.int .i64 r) ⟨[(38, .bool p1_0)], [], []⟩ := by
  unfold i_redexKind_j2 at h
  refine posF_of rfl rfl ?_
  try simp only [go_sem]
  refine cond_i (fun hb15 => ?_) (fun hb15 => ?_)
  · replace h := ifT (c := p1_0) hb15 h
    try simp only [go_sem]
    replace h := Option.some.inj h
    obtain rfl := h
    simp only [go_sem]
  · replace h := ifF (c := p1_0) hb15 h
    try simp only [go_sem]
    refine seq_go ?_
    try simp only [go_sem]
    replace h := Option.some.inj h
    obtain rfl := h
    simp only [go_sem]
theorem i_redexKind_j1_ok (v4002 : Core) (v13002 : Core) (p0_0 : Bool) (r : Int) (h : i_redexKind_j1 v4002 v13002 p0_0 = some r) : posF Try.prog Try.f52 [1, 1, 1, 0, 1, 0, 1, 1, 1, 0, 1, 0, 1] (.int .i64 r) ⟨[(3, .box 1000000500 0), (4, .box 1000000501 0), (29, .bool p0_0)], [], [(1000000500, some [.int .i64 v4002.kind, .int .i64 v4002.value, .ro (List.map i64D v4002.data), .ro (List.map Core.ds v4002.kids)]), (1000000501, some [.int .i64 v13002.kind, .int .i64 v13002.value, .ro (List.map i64D v13002.data), .ro (List.map Core.ds v13002.kids)])]⟩ := by
  unfold i_redexKind_j1 at h
  refine posF_of rfl rfl ?_
  try simp only [go_sem]
  refine cond_i (fun hb8 => ?_) (fun hb8 => ?_)
  · replace h := ifT (c := p0_0) hb8 h
    try simp only [go_sem]
    replace h := Option.some.inj h
    obtain rfl := h
    simp only [go_sem]
  · replace h := ifF (c := p0_0) hb8 h
    try simp only [go_sem]
    refine cond_i (fun hb9 => ?_) (fun hb9 => ?_)
    · replace h := ifT (c := (decide (v4002.kind = 11))) hb9 h
      try simp only [go_sem]
      have hj := posF_to rfl rfl (i_redexKind_j2_ok true _ h)
      refine seq_to hj (.one ⟨_, .done _, [], [], ?_⟩)
      clear hj
      try simp only [go_sem]
    · replace h := ifF (c := (decide (v4002.kind = 11))) hb9 h
      try simp only [go_sem]
      refine cond_i (fun hb10 => ?_) (fun hb10 => ?_)
      · replace h := ifT (c := (decide (v4002.kind = 2))) hb10 h
        try simp only [go_sem]
        have hj := posF_to rfl rfl (i_redexKind_j2_ok (decide (v13002.kind = 11)) _ h)
        refine seq_to hj (.one ⟨_, .done _, [], [], ?_⟩)
        clear hj
        try simp only [go_sem]
      · replace h := ifF (c := (decide (v4002.kind = 2))) hb10 h
        try simp only [go_sem]
        have hj := posF_to rfl rfl (i_redexKind_j2_ok false _ h)
        refine seq_to hj (.one ⟨_, .done _, [], [], ?_⟩)
        clear hj
        try simp only [go_sem]
theorem i_redexKind_j5_ok (p4_0 : Bool) (r : Int) (h : i_redexKind_j5 p4_0 = some r) : posF Try.prog Try.f52 [1, 1, 1, 0, 1, 0, 1, 1, 1, 1, 1, 0, 0, 1, 1, 1] (.int .i64 r) ⟨[(59, .bool p4_0)], [], []⟩ := by
  unfold i_redexKind_j5 at h
  refine posF_of rfl rfl ?_
  try simp only [go_sem]
  refine cond_i (fun hb16 => ?_) (fun hb16 => ?_)
  · replace h := ifT (c := p4_0) hb16 h
    try simp only [go_sem]
    replace h := Option.some.inj h
    obtain rfl := h
    simp only [go_sem]
  · replace h := ifF (c := p4_0) hb16 h
    try simp only [go_sem]
    refine seq_go ?_
    try simp only [go_sem]
    replace h := Option.some.inj h
    obtain rfl := h
    simp only [go_sem]
theorem i_redexKind_j4_ok (a0 : Core) (v4002 : Core) (p3_0 : Bool) (r : Int) (h : i_redexKind_j4 a0 v4002 p3_0 = some r) : posF Try.prog Try.f52 [1, 1, 1, 0, 1, 0, 1, 1, 1, 1, 1, 0, 0, 1, 1, 0, 1] (.int .i64 r) ⟨[(1, .box 1000003500 0), (3, .box 1000003501 0), (59, .bool p3_0)], [], [(1000003500, some [.int .i64 a0.kind, .int .i64 a0.value, .ro (List.map i64D a0.data), .ro (List.map Core.ds a0.kids)]), (1000003501, some [.int .i64 v4002.kind, .int .i64 v4002.value, .ro (List.map i64D v4002.data), .ro (List.map Core.ds v4002.kids)])]⟩ := by
  unfold i_redexKind_j4 at h
  refine posF_of rfl rfl ?_
  try simp only [go_sem]
  refine cond_i (fun hb17 => ?_) (fun hb17 => ?_)
  · replace h := ifT (c := p3_0) hb17 h
    try simp only [go_sem]
    have hj := posF_to rfl rfl (i_redexKind_j5_ok p3_0 _ h)
    refine seq_to hj (.one ⟨_, .done _, [], [], ?_⟩)
    clear hj
    try simp only [go_sem]
  · replace h := ifF (c := p3_0) hb17 h
    try simp only [go_sem]
    refine cond_i (fun hb18 => ?_) (fun hb18 => ?_)
    · replace h := ifT (c := (decide (a0.kind = 10))) hb18 h
      try simp only [go_sem]
      have hj := posF_to rfl rfl (i_redexKind_j5_ok (decide (v4002.kind = 2)) _ h)
      refine seq_to hj (.one ⟨_, .done _, [], [], ?_⟩)
      clear hj
      try simp only [go_sem]
    · replace h := ifF (c := (decide (a0.kind = 10))) hb18 h
      try simp only [go_sem]
      have hj := posF_to rfl rfl (i_redexKind_j5_ok false _ h)
      refine seq_to hj (.one ⟨_, .done _, [], [], ?_⟩)
      clear hj
      try simp only [go_sem]
theorem i_redexKind_j3_ok (a0 : Core) (v4002 : Core) (p2_0 : Bool) (r : Int) (h : i_redexKind_j3 a0 v4002 p2_0 = some r) : posF Try.prog Try.f52 [1, 1, 1, 0, 1, 0, 1, 1, 1, 1, 1] (.int .i64 r) ⟨[(1, .box 1000002500 0), (3, .box 1000002501 0), (52, .bool p2_0)], [], [(1000002500, some [.int .i64 a0.kind, .int .i64 a0.value, .ro (List.map i64D a0.data), .ro (List.map Core.ds a0.kids)]), (1000002501, some [.int .i64 v4002.kind, .int .i64 v4002.value, .ro (List.map i64D v4002.data), .ro (List.map Core.ds v4002.kids)])]⟩ := by
  unfold i_redexKind_j3 at h
  refine posF_of rfl rfl ?_
  try simp only [go_sem]
  refine cond_i (fun hb11 => ?_) (fun hb11 => ?_)
  · replace h := ifT (c := p2_0) hb11 h
    try simp only [go_sem]
    refine cond_i (fun hb12 => ?_) (fun hb12 => ?_)
    · replace h := ifT (c := (decide (v4002.kind = 11))) hb12 h
      try simp only [go_sem]
      replace h := Option.some.inj h
      obtain rfl := h
      simp only [go_sem]
    · replace h := ifF (c := (decide (v4002.kind = 11))) hb12 h
      try simp only [go_sem]
      refine cond_i (fun hb13 => ?_) (fun hb13 => ?_)
      · replace h := ifT (c := (decide (a0.kind = 9))) hb13 h
        try simp only [go_sem]
        refine cond_i (fun hb14 => ?_) (fun hb14 => ?_)
        · replace h := ifT (c := (decide (v4002.kind = 8))) hb14 h
          try simp only [go_sem]
          have hj := posF_to rfl rfl (i_redexKind_j4_ok a0 v4002 (decide (v4002.value < ((List.length a0.data : Nat) : Int))) _ h)
          refine seq_to hj (.one ⟨_, .done _, [], [(1000003500, 1000002500), (1000003501, 1000002501)], ?_⟩)
          clear hj
          try simp only [go_sem]
        · replace h := ifF (c := (decide (v4002.kind = 8))) hb14 h
          try simp only [go_sem]
          have hj := posF_to rfl rfl (i_redexKind_j4_ok a0 v4002 false _ h)
          refine seq_to hj (.one ⟨_, .done _, [], [(1000003500, 1000002500), (1000003501, 1000002501)], ?_⟩)
          clear hj
          try simp only [go_sem]
      · replace h := ifF (c := (decide (a0.kind = 9))) hb13 h
        try simp only [go_sem]
        have hj := posF_to rfl rfl (i_redexKind_j4_ok a0 v4002 false _ h)
        refine seq_to hj (.one ⟨_, .done _, [], [(1000003500, 1000002500), (1000003501, 1000002501)], ?_⟩)
        clear hj
        try simp only [go_sem]
  · replace h := ifF (c := p2_0) hb11 h
    try simp only [go_sem]
    refine seq_go ?_
    try simp only [go_sem]
    replace h := Option.some.inj h
    obtain rfl := h
    simp only [go_sem]
theorem i_redexKind_ok (a0 : Core) (r : Int) (h : i_redexKind a0 = some r) : AC Try.prog 52 [.agg (Core.avs a0)] (.int .i64 r) := by
  unfold i_redexKind at h
  refine ac_fn mixed Try.func52 rfl rfl rfl (by kernel_rfl) (by kernel_rfl) ?_
  try simp only [go_sem]
  refine cond_i (fun hb1 => ?_) (fun hb1 => ?_)
  · replace h := ifT (c := (decide (((List.length a0.kids : Nat) : Int) = 0))) hb1 h
    try simp only [go_sem]
    replace h := Option.some.inj h
    obtain rfl := h
    simp only [go_sem]
  · replace h := ifF (c := (decide (((List.length a0.kids : Nat) : Int) = 0))) hb1 h
    try simp only [go_sem]
    refine seq_go ?_
    try simp only [go_sem]
    replace h := bindE h
    obtain ⟨v4002, hv4002, h⟩ := h
    refine idx_m hv4002 (Core.ds_len _) ?_
    try simp only [go_sem]
    refine seq_go ?_
    try simp only [go_sem]
    refine cond_i (fun hb2 => ?_) (fun hb2 => ?_)
    · replace h := ifT (c := (decide (a0.kind = 5))) hb2 h
      try simp only [go_sem]
      refine cond_i (fun hb3 => ?_) (fun hb3 => ?_)
      · replace h := ifT (c := (decide (v4002.kind = 4))) hb3 h
        try simp only [go_sem]
        replace h := Option.some.inj h
        obtain rfl := h
        simp only [go_sem]
      · replace h := ifF (c := (decide (v4002.kind = 4))) hb3 h
        try simp only [go_sem]
        refine cond_i (fun hb4 => ?_) (fun hb4 => ?_)
        · replace h := ifT (c := (decide (v4002.kind = 11))) hb4 h
          try simp only [go_sem]
          replace h := Option.some.inj h
          obtain rfl := h
          simp only [go_sem]
        · replace h := ifF (c := (decide (v4002.kind = 11))) hb4 h
          try simp only [go_sem]
          refine seq_go ?_
          try simp only [go_sem]
          replace h := Option.some.inj h
          obtain rfl := h
          simp only [go_sem]
    · replace h := ifF (c := (decide (a0.kind = 5))) hb2 h
      try simp only [go_sem]
      refine cond_i (fun hb5 => ?_) (fun hb5 => ?_)
      · replace h := ifT (c := (decide (a0.kind = 3))) hb5 h
        try simp only [go_sem]
        replace h := bindE h
        obtain ⟨v13002, hv13002, h⟩ := h
        refine idx_m hv13002 (Core.ds_len _) ?_
        try simp only [go_sem]
        refine seq_go ?_
        try simp only [go_sem]
        refine cond_i (fun hb6 => ?_) (fun hb6 => ?_)
        · replace h := ifT (c := (decide (v4002.kind = 2))) hb6 h
          try simp only [go_sem]
          have hj := posF_to rfl rfl (i_redexKind_j1_ok v4002 v13002 (decide (v13002.kind = 2)) _ h)
          refine seq_to hj (.one ⟨_, .done _, [], [(1000000500, 4004), (1000000501, 13004)], ?_⟩)
          clear hj
          try simp only [go_sem]
        · replace h := ifF (c := (decide (v4002.kind = 2))) hb6 h
          try simp only [go_sem]
          have hj := posF_to rfl rfl (i_redexKind_j1_ok v4002 v13002 false _ h)
          refine seq_to hj (.one ⟨_, .done _, [], [(1000000500, 4004), (1000000501, 13004)], ?_⟩)
          clear hj
          try simp only [go_sem]
      · replace h := ifF (c := (decide (a0.kind = 3))) hb5 h
        try simp only [go_sem]
        refine cond_i (fun hb7 => ?_) (fun hb7 => ?_)
        · replace h := ifT (c := (decide (a0.kind = 9))) hb7 h
          try simp only [go_sem]
          have hj := posF_to rfl rfl (i_redexKind_j3_ok a0 v4002 (decide (a0.kind = 9)) _ h)
          refine seq_to hj (.one ⟨_, .done _, [], [(1000002500, 1000), (1000002501, 4004)], ?_⟩)
          clear hj
          try simp only [go_sem]
        · replace h := ifF (c := (decide (a0.kind = 9))) hb7 h
          try simp only [go_sem]
          have hj := posF_to rfl rfl (i_redexKind_j3_ok a0 v4002 (decide (a0.kind = 10)) _ h)
          refine seq_to hj (.one ⟨_, .done _, [], [(1000002500, 1000), (1000002501, 4004)], ?_⟩)
          clear hj
          try simp only [go_sem]
theorem i_labelNode_redexes_all (n : Nat) : (∀ (a0 : LabelNode) (a1 : List LabelNode) (r : (List LabelNode)), i_labelNode_redexes n a0 a1 = some r → AG Try.prog 27 [.rop [.int .i64 a0.core.kind, .int .i64 a0.core.value, .ro (List.map i64D a0.core.data), .ro (List.map Core.ds a0.core.kids), .str a0.label, .int .i64 a0.att, .ro (List.map (pD LabelNode.ds) a0.kids)] 0, .own 1001] [(1001, ⟨List.map (pD LabelNode.ds) a1, some 1, 0, true⟩)] [] (.own 1501) [(1501, ⟨List.map (pD LabelNode.ds) r, some 1, 0, true⟩)] []) ∧
    (∀ (a0 : LabelNode) (p0_0 : List LabelNode) (r : (List LabelNode)), i_labelNode_redexes_j1 n a0 p0_0 = some r → posG Try.prog Try.f27 [1, 1] (.own 1501) [(1501, ⟨List.map (pD LabelNode.ds) r, some 1, 0, true⟩)] [] ⟨[(0, .rop [.int .i64 a0.core.kind, .int .i64 a0.core.value, .ro (List.map i64D a0.core.data), .ro (List.map Core.ds a0.core.kids), .str a0.label, .int .i64 a0.att, .ro (List.map (pD LabelNode.ds) a0.kids)] 0), (1, .own 1000000000)], [(1000000000, some ⟨List.map (pD LabelNode.ds) p0_0, some 1, 0, true⟩)], []⟩) ∧
    (∀ (a0 : LabelNode) (p2_0 : List LabelNode) (p2_1 : Int) (r : (List LabelNode)), i_labelNode_redexes_l3 n a0 p2_0 p2_1 = some r → posG Try.prog Try.f27 [1, 1, 0, 1, 0] (.own 1501) [(1501, ⟨List.map (pD LabelNode.ds) r, some 1, 0, true⟩)] [] ⟨[(1, .own 1000002000), (20, .ro (List.map (pD LabelNode.ds) a0.kids)), (21, .int .i64 ((List.length a0.kids : Nat) : Int)), (22, .int .i64 p2_1)], [(1000002000, some ⟨List.map (pD LabelNode.ds) p2_0, some 1, 0, true⟩)], []⟩) := by
  induction n with
  | zero => exact ⟨(fun _ _ _ h => by rw [i_labelNode_redexes] at h; cases h), (fun _ _ _ h => by rw [i_labelNode_redexes_j1] at h; cases h), (fun _ _ _ _ h => by rw [i_labelNode_redexes_l3] at h; cases h)⟩
  | succ n ih =>
    obtain ⟨ih0, ih1, ih2⟩ := ih
    refine ⟨?_, ?_, ?_⟩
    · intro a0 a1 r h
      rw [i_labelNode_redexes] at h
      refine ag_fn mixed Try.func27 rfl rfl rfl (by kernel_rfl) (by kernel_rfl) ?_
      try simp only [go_sem]
      replace h := bindE h
      obtain ⟨v2004, hv2004, h⟩ := h
      refine call_i (i_redexKind_ok _ _ hv2004) ?_
      try simp only [go_sem]
      refine seq_go ?_
      try simp only [go_sem]
      refine cond_i (fun hb1 => ?_) (fun hb1 => ?_)
      · replace h := ifT (c := (!decide (v2004 = 0))) hb1 h
        try simp only [go_sem]
        replace h := bindE h
        obtain ⟨v3003, hv3003, h⟩ := h
        have hq_ := app_some hv3003
        obtain ⟨hv3003a, hv3003b⟩ := hq_
        refine zed_i true ?_
        try simp only [go_sem]
        refine and_i (by refine ⟨?_, ?_⟩ <;> (try simp only [List.length_map, List.length_append, List.length_cons, List.length_nil] at *) <;> (try unfold maxLen) <;> omega) ?_
        try simp only [go_sem]
        refine row_i (List.map (pD LabelNode.ds) v3003) (by rw [← hv3003b]; simp only [List.map_append, List.map_cons, List.map_nil, List.nil_append, List.append_nil, go_sem, pD, LabelNode.ds_eq]) ?_
        try simp only [go_sem]
        have hj := posG_to rfl rfl (ih1 a0 v3003 _ h)
        refine seq_to hj (.one ⟨_, .done _, [(1000000000, 48048)], [], ?_⟩)
        clear hj
        try simp only [go_sem]
      · replace h := ifF (c := (!decide (v2004 = 0))) hb1 h
        try simp only [go_sem]
        have hj := posG_to rfl rfl (ih1 a0 a1 _ h)
        refine seq_to hj (.one ⟨_, .done _, [(1000000000, 1001)], [], ?_⟩)
        clear hj
        try simp only [go_sem]
    · intro a0 p0_0 r h
      rw [i_labelNode_redexes_j1] at h
      refine posG_of rfl rfl ?_
      try simp only [go_sem]
      have hj := posG_to rfl rfl (ih2 a0 p0_0 0 _ h)
      refine loop_to hj (.one ⟨_, .done _, [(1000002000, 1000000000)], [], ?_⟩)
      clear hj
      try simp only [go_sem]
    · intro a0 p2_0 p2_1 r h
      rw [i_labelNode_redexes_l3] at h
      refine posG_of rfl rfl ?_
      try simp only [go_sem]
      refine loop_i ?_
      try simp only [go_sem]
      refine cond_i (fun hb2 => ?_) (fun hb2 => ?_)
      · replace h := ifT (c := (decide (p2_1 < ((List.length a0.kids : Nat) : Int)))) hb2 h
        try simp only [go_sem]
        refine seq_go ?_
        try simp only [go_sem]
        replace h := bindE h
        obtain ⟨v6000, hv6000, h⟩ := h
        refine idx_m hv6000 rfl ?_
        try simp only [go_sem]
        replace h := bindE h
        obtain ⟨v7002, hv7002, h⟩ := h
        refine call_g ⟨[], [(1001, 1000002000)], [], [(1501, 112032)], [], true⟩ (by kernel_rfl) (ih0 _ _ _ hv7002) (by kernel_rfl) ?_
        try simp only [go_sem]
        refine seq_go ?_
        try simp only [go_sem]
        have hj := posG_to rfl rfl (ih2 a0 v7002 (IntKind.i64.wrap (p2_1 + 1)) _ h)
        refine lp_to hj (.one ⟨_, .done _, [(1000002000, 112032)], [], ?_⟩)
        clear hj
        try simp only [go_sem]
      · replace h := ifF (c := (decide (p2_1 < ((List.length a0.kids : Nat) : Int)))) hb2 h
        try simp only [go_sem]
        refine seq_go ?_
        try simp only [go_sem]
        replace h := Option.some.inj h
        obtain rfl := h
        refine ret_i (.done _) [(1501, 1000002000)] [] ?_
        simp only [go_sem]
theorem i_labelNode_redexes_ok (n : Nat) : (∀ (a0 : LabelNode) (a1 : List LabelNode) (r : (List LabelNode)), i_labelNode_redexes n a0 a1 = some r → AG Try.prog 27 [.rop [.int .i64 a0.core.kind, .int .i64 a0.core.value, .ro (List.map i64D a0.core.data), .ro (List.map Core.ds a0.core.kids), .str a0.label, .int .i64 a0.att, .ro (List.map (pD LabelNode.ds) a0.kids)] 0, .own 1001] [(1001, ⟨List.map (pD LabelNode.ds) a1, some 1, 0, true⟩)] [] (.own 1501) [(1501, ⟨List.map (pD LabelNode.ds) r, some 1, 0, true⟩)] []) := (i_labelNode_redexes_all n).1
theorem i_labelNode_redexes_j1_ok (n : Nat) : (∀ (a0 : LabelNode) (p0_0 : List LabelNode) (r : (List LabelNode)), i_labelNode_redexes_j1 n a0 p0_0 = some r → posG Try.prog Try.f27 [1, 1] (.own 1501) [(1501, ⟨List.map (pD LabelNode.ds) r, some 1, 0, true⟩)] [] ⟨[(0, .rop [.int .i64 a0.core.kind, .int .i64 a0.core.value, .ro (List.map i64D a0.core.data), .ro (List.map Core.ds a0.core.kids), .str a0.label, .int .i64 a0.att, .ro (List.map (pD LabelNode.ds) a0.kids)] 0), (1, .own 1000000000)], [(1000000000, some ⟨List.map (pD LabelNode.ds) p0_0, some 1, 0, true⟩)], []⟩) := (i_labelNode_redexes_all n).2.1
theorem i_labelNode_redexes_l3_ok (n : Nat) : (∀ (a0 : LabelNode) (p2_0 : List LabelNode) (p2_1 : Int) (r : (List LabelNode)), i_labelNode_redexes_l3 n a0 p2_0 p2_1 = some r → posG Try.prog Try.f27 [1, 1, 0, 1, 0] (.own 1501) [(1501, ⟨List.map (pD LabelNode.ds) r, some 1, 0, true⟩)] [] ⟨[(1, .own 1000002000), (20, .ro (List.map (pD LabelNode.ds) a0.kids)), (21, .int .i64 ((List.length a0.kids : Nat) : Int)), (22, .int .i64 p2_1)], [(1000002000, some ⟨List.map (pD LabelNode.ds) p2_0, some 1, 0, true⟩)], []⟩) := (i_labelNode_redexes_all n).2.2

theorem g_IndexFunc_s_impl_labelNode_l1_all (n : Nat) : (∀ (a0 : List LabelNode) (p0_0 : Int) (f1 : (LabelNode → Option Bool)) (g1 : FuncId) (c1 : List AV) (s1 : Still c1) (h1 : ∀ (y0 : LabelNode) (q : Bool), f1 y0 = some q → AC Try.prog g1 (.rop (LabelNode.avs y0) 0 :: c1) (.bool q)) (r : Int), g_IndexFunc_s_impl_labelNode_l1 n a0 p0_0 f1 = some r → posF Try.prog Try.f49 [1, 0, 1, 0] (.int .i64 r) ⟨[(0, .ro (List.map (pD LabelNode.ds) a0)), (1, .fn g1 c1), (7, .int .i64 ((List.length a0 : Nat) : Int)), (8, .int .i64 p0_0)], [], []⟩) := by
  induction n with
  | zero => exact ((fun _ _ _ _ _ _ _ _ h => by rw [g_IndexFunc_s_impl_labelNode_l1] at h; cases h))
  | succ n ih =>
    have ih0 := ih
    · intro a0 p0_0 f1 g1 c1 s1 h1 r h
      rw [g_IndexFunc_s_impl_labelNode_l1] at h
      refine posF_of rfl rfl ?_
      try simp only [go_sem, s1.k, s1.r, s1.c, s1.p]
      refine loop_i ?_
      try simp only [go_sem, s1.k, s1.r, s1.c, s1.p]
      refine cond_i (fun hb1 => ?_) (fun hb1 => ?_)
      · replace h := ifT (c := (decide (p0_0 < ((List.length a0 : Nat) : Int)))) hb1 h
        try simp only [go_sem, s1.k, s1.r, s1.c, s1.p]
        refine seq_go ?_
        try simp only [go_sem, s1.k, s1.r, s1.c, s1.p]
        replace h := bindE h
        obtain ⟨v5003, hv5003, h⟩ := h
        refine idx_m hv5003 rfl ?_
        try simp only [go_sem, s1.k, s1.r, s1.c, s1.p]
        replace h := bindE h
        obtain ⟨v5005, hv5005, h⟩ := h
        refine call_i (h1 _ _ hv5005) ?_
        try simp only [go_sem, s1.k, s1.r, s1.c, s1.p]
        refine seq_go ?_
        try simp only [go_sem, s1.k, s1.r, s1.c, s1.p]
        refine cond_i (fun hb2 => ?_) (fun hb2 => ?_)
        · replace h := ifT (c := v5005) hb2 h
          try simp only [go_sem, s1.k, s1.r, s1.c, s1.p]
          replace h := Option.some.inj h
          obtain rfl := h
          simp only [go_sem, s1.k, s1.r, s1.c, s1.p]
        · replace h := ifF (c := v5005) hb2 h
          try simp only [go_sem, s1.k, s1.r, s1.c, s1.p]
          refine seq_go ?_
          try simp only [go_sem, s1.k, s1.r, s1.c, s1.p]
          have hj := posF_to rfl rfl (ih0 a0 (IntKind.i64.wrap (p0_0 + 1)) f1 g1 c1 s1 h1 _ h)
          refine lp_to hj (.one ⟨_, .done _, [], [], ?_⟩)
          clear hj
          try simp only [go_sem, s1.k, s1.r, s1.c, s1.p]
      · replace h := ifF (c := (decide (p0_0 < ((List.length a0 : Nat) : Int)))) hb1 h
        try simp only [go_sem, s1.k, s1.r, s1.c, s1.p]
        refine seq_go ?_
        try simp only [go_sem, s1.k, s1.r, s1.c, s1.p]
        replace h := Option.some.inj h
        obtain rfl := h
        simp only [go_sem, s1.k, s1.r, s1.c, s1.p]
theorem g_IndexFunc_s_impl_labelNode_l1_ok (n : Nat) : (∀ (a0 : List LabelNode) (p0_0 : Int) (f1 : (LabelNode → Option Bool)) (g1 : FuncId) (c1 : List AV) (s1 : Still c1) (h1 : ∀ (y0 : LabelNode) (q : Bool), f1 y0 = some q → AC Try.prog g1 (.rop (LabelNode.avs y0) 0 :: c1) (.bool q)) (r : Int), g_IndexFunc_s_impl_labelNode_l1 n a0 p0_0 f1 = some r → posF Try.prog Try.f49 [1, 0, 1, 0] (.int .i64 r) ⟨[(0, .ro (List.map (pD LabelNode.ds) a0)), (1, .fn g1 c1), (7, .int .i64 ((List.length a0 : Nat) : Int)), (8, .int .i64 p0_0)], [], []⟩) := (g_IndexFunc_s_impl_labelNode_l1_all n)

theorem g_IndexFunc_s_impl_labelNode_ok (a0 : List LabelNode) (f1 : (LabelNode → Option Bool)) (g1 : FuncId) (c1 : List AV) (s1 : Still c1) (h1 : ∀ (y0 : LabelNode) (q : Bool), f1 y0 = some q → AC Try.prog g1 (.rop (LabelNode.avs y0) 0 :: c1) (.bool q)) (r : Int) (h : g_IndexFunc_s_impl_labelNode a0 f1 = some r) : AC Try.prog 49 [.ro (List.map (pD LabelNode.ds) a0), .fn g1 c1] (.int .i64 r) := by
  unfold g_IndexFunc_s_impl_labelNode at h
  refine ac_fn mixed Try.func49 rfl rfl rfl (by kernel_rfl) (by kernel_rfl) ?_
  try simp only [go_sem, s1.k, s1.r, s1.c, s1.p]
  have hj := posF_to rfl rfl (g_IndexFunc_s_impl_labelNode_l1_ok fuel a0 0 f1 g1 c1 s1 h1 _ h)
  refine loop_to hj (.one ⟨_, .done _, [], [], ?_⟩)
  clear hj
  try simp only [go_sem, s1.k, s1.r, s1.c, s1.p]
theorem i_redexAt_1_ok (a0 : LabelNode) (a1 : Int) (r : Bool) (h : i_redexAt_1 a0 a1 = some r) : AC Try.prog 50 [.rop (LabelNode.avs a0) 0, .rop [.int .i64 a1] 0] (.bool r) := by
  unfold i_redexAt_1 at h
  refine ac_fn mixed Try.func50 rfl rfl rfl (by kernel_rfl) (by kernel_rfl) ?_
  try simp only [go_sem]
  refine draw_i [] .fin (by kernel_rfl) ?_
  try simp only [go_sem]
  refine seq_go ?_
  try simp only [go_sem]
  replace h := Option.some.inj h
  obtain rfl := h
  simp only [go_sem]
theorem i_redexAt_ok (a0 : List LabelNode) (a1 : Int) (r : Option LabelNode) (h : i_redexAt a0 a1 = some r) : AG Try.prog 25 [.own 1001, .int .i64 a1] [(1001, ⟨List.map (pD LabelNode.ds) a0, some 1, 0, true⟩)] [] ((nop LabelNode.avs r)) [] [] := by
  unfold i_redexAt at h
  refine ag_fn mixed Try.func25 rfl rfl rfl (by kernel_rfl) (by kernel_rfl) ?_
  try simp only [go_sem]
  replace h := bindE h
  obtain ⟨v2002, hv2002, h⟩ := h
  refine call_i (g_IndexFunc_s_impl_labelNode_ok _ _ 50 [.rop [.int .i64 a1] 0] (Still.of (by simp only [pureAs, pureA, Bool.and_true, Bool.true_and, Bool.and_self])) (fun y0 q hq => i_redexAt_1_ok y0 _ q hq) _ hv2002) ?_
  try simp only [go_sem]
  refine seq_go ?_
  try simp only [go_sem]
  refine cond_i (fun hb1 => ?_) (fun hb1 => ?_)
  · replace h := ifT (c := (decide (v2002 < 0))) hb1 h
    try simp only [go_sem]
    replace h := Option.some.inj h
    obtain rfl := h
    refine ret_i (.done _) [] [] ?_
    simp only [go_sem]
  · replace h := ifF (c := (decide (v2002 < 0))) hb1 h
    try simp only [go_sem]
    refine seq_go ?_
    try simp only [go_sem]
    replace h := bindE h
    obtain ⟨v5002, hv5002, h⟩ := h
    refine idx_m hv5002 rfl ?_
    try simp only [go_sem]
    refine opt_i (row_m hv5002) ?_
    try simp only [go_sem]
    replace h := Option.some.inj h
    obtain rfl := h
    refine ret_i (.done _) [] [] ?_
    simp only [go_sem]
theorem i_labelNode_redexName_j1_ok (a0 : LabelNode) (v2004 : LabelNode) (p0_0 : Bool) (r : ByteArray) (h : i_labelNode_redexName_j1 a0 v2004 p0_0 = some r) : posF Try.prog Try.f28 [1, 1, 1, 0, 1] (.str r) ⟨[(0, .rop [.int .i64 a0.core.kind, .int .i64 a0.core.value, .ro (List.map i64D a0.core.data), .ro (List.map Core.ds a0.core.kids), .str a0.label, .int .i64 a0.att, .ro (List.map (pD LabelNode.ds) a0.kids)] 0), (3, .str v2004.label), (45, .bool p0_0)], [], []⟩ := by
  unfold i_labelNode_redexName_j1 at h
  refine posF_of rfl rfl ?_
  try simp only [go_sem]
  refine cond_i (fun hb4 => ?_) (fun hb4 => ?_)
  · replace h := ifT (c := p0_0) hb4 h
    try simp only [go_sem]
    replace h := bindE h
    obtain ⟨v5005, hv5005, h⟩ := h
    refine idx_m hv5005 rfl ?_
    try simp only [go_sem]
    replace h := bindE h
    obtain ⟨v5010, hv5010, h⟩ := h
    have hq_ := sapp_some hv5010
    obtain ⟨hv5010a, hv5010b⟩ := hq_
    refine and_i hv5010a ?_
    rw [hv5010b]
    try simp only [go_sem]
    replace h := bindE h
    obtain ⟨v5011, hv5011, h⟩ := h
    have hq_ := sapp_some hv5011
    obtain ⟨hv5011a, hv5011b⟩ := hq_
    refine and_i hv5011a ?_
    rw [hv5011b]
    try simp only [go_sem]
    refine seq_go ?_
    try simp only [go_sem]
    replace h := Option.some.inj h
    obtain rfl := h
    simp only [go_sem]
  · replace h := ifF (c := p0_0) hb4 h
    try simp only [go_sem]
    refine seq_go ?_
    try simp only [go_sem]
    replace h := Option.some.inj h
    obtain rfl := h
    simp only [go_sem]
theorem i_labelNode_redexName_ok (a0 : LabelNode) (r : ByteArray) (h : i_labelNode_redexName a0 = some r) : AC Try.prog 28 [.rop (LabelNode.avs a0) 0] (.str r) := by
  unfold i_labelNode_redexName at h
  refine ac_fn mixed Try.func28 rfl rfl rfl (by kernel_rfl) (by kernel_rfl) ?_
  try simp only [go_sem]
  replace h := bindE h
  obtain ⟨v2004, hv2004, h⟩ := h
  refine idx_m hv2004 rfl ?_
  try simp only [go_sem]
  replace h := bindE h
  obtain ⟨v3004, hv3004, h⟩ := h
  refine call_i (i_redexKind_ok _ _ hv3004) ?_
  try simp only [go_sem]
  refine seq_go ?_
  try simp only [go_sem]
  refine cond_i (fun hb1 => ?_) (fun hb1 => ?_)
  · replace h := ifT (c := (decide (v3004 = 2))) hb1 h
    try simp only [go_sem]
    have hj := posF_to rfl rfl (i_labelNode_redexName_j1_ok a0 v2004 true _ h)
    refine seq_to hj (.one ⟨_, .done _, [], [], ?_⟩)
    clear hj
    try simp only [go_sem]
  · replace h := ifF (c := (decide (v3004 = 2))) hb1 h
    try simp only [go_sem]
    refine cond_i (fun hb2 => ?_) (fun hb2 => ?_)
    · replace h := ifT (c := (decide (v3004 = 4))) hb2 h
      try simp only [go_sem]
      refine cond_i (fun hb3 => ?_) (fun hb3 => ?_)
      · replace h := ifT (c := (decide (a0.core.kind = 3))) hb3 h
        try simp only [go_sem]
        replace h := bindE h
        obtain ⟨v4018, hv4018, h⟩ := h
        refine idx_m hv4018 rfl ?_
        try simp only [go_sem]
        have hj := posF_to rfl rfl (i_labelNode_redexName_j1_ok a0 v2004 (decide (v4018.core.kind = 2)) _ h)
        refine seq_to hj (.one ⟨_, .done _, [], [], ?_⟩)
        clear hj
        try simp only [go_sem]
      · replace h := ifF (c := (decide (a0.core.kind = 3))) hb3 h
        try simp only [go_sem]
        have hj := posF_to rfl rfl (i_labelNode_redexName_j1_ok a0 v2004 false _ h)
        refine seq_to hj (.one ⟨_, .done _, [], [], ?_⟩)
        clear hj
        try simp only [go_sem]
    · replace h := ifF (c := (decide (v3004 = 4))) hb2 h
      try simp only [go_sem]
      have hj := posF_to rfl rfl (i_labelNode_redexName_j1_ok a0 v2004 false _ h)
      refine seq_to hj (.one ⟨_, .done _, [], [], ?_⟩)
      clear hj
      try simp only [go_sem]
end Go.Proofs.Ytgigfdghecdlgaa.Ab
