/-
  The functions do what their models say. Printed by wip/ab/gen.py.
-/
import Derived.Test.YtffokcfdkkikmaaModW
import Derived.Test.YtffokcfdkkikmaaTi2
import Derived.Test.YtffokcfdkkikmaaSortW
import Derived.Test.YtffokcfdkkikmaaWlkM
namespace Go.Proofs.Ytffokcfdkkikmaa.Ab
set_option linter.unusedVariables false
set_option linter.unusedSimpArgs false
set_option maxRecDepth 20000
set_option maxHeartbeats 4000000
open Go.RowKit

theorem s_l00Put_l10_all (n : Nat) : (∀ (a0 : List Int) (a1 : Int) (p3_0 : List Int) (p3_1 : Bool) (p3_2 : Int) (r : (List Int)), s_l00Put_l10 n a0 a1 p3_0 p3_1 p3_2 = some r → posF Try.prog Try.f218 [1, 1, 1, 0, 1, 0] (.ow (some 1) (List.map i64D r)) ⟨[(0, .ro (List.map i64D a0)), (1, .int .i64 a1), (5, .own 1000003000), (6, .bool p3_1), (7, .int .i64 p3_2)], [(1000003000, some ⟨List.map i64D p3_0, some 1, 0⟩)], []⟩) ∧
    (∀ (a0 : List Int) (a1 : Int) (p3_0 : List Int) (p3_1 : Bool) (p3_2 : Int) (p4_0 : Bool) (r : (List Int)), s_l00Put_j11 n a0 a1 p3_0 p3_1 p3_2 p4_0 = some r → posF Try.prog Try.f218 [1, 1, 1, 0, 1, 0, 0, 1, 0, 0, 0, 1] (.ow (some 1) (List.map i64D r)) ⟨[(0, .ro (List.map i64D a0)), (1, .int .i64 a1), (5, .own 1000004000), (6, .bool p3_1), (7, .int .i64 p3_2), (24, .bool p4_0)], [(1000004000, some ⟨List.map i64D p3_0, some 1, 0⟩)], []⟩) ∧
    (∀ (a0 : List Int) (a1 : Int) (p3_2 : Int) (p5_0 : List Int) (p5_1 : Bool) (r : (List Int)), s_l00Put_j12 n a0 a1 p3_2 p5_0 p5_1 = some r → posF Try.prog Try.f218 [1, 1, 1, 0, 1, 0, 0, 1, 0, 0, 1] (.ow (some 1) (List.map i64D r)) ⟨[(0, .ro (List.map i64D a0)), (1, .int .i64 a1), (5, .own 1000005000), (6, .bool p5_1), (7, .int .i64 p3_2)], [(1000005000, some ⟨List.map i64D p5_0, some 1, 0⟩)], []⟩) := by
  induction n with
  | zero => exact ⟨(fun _ _ _ _ _ _ h => by rw [s_l00Put_l10] at h; cases h), (fun _ _ _ _ _ _ _ h => by rw [s_l00Put_j11] at h; cases h), (fun _ _ _ _ _ _ h => by rw [s_l00Put_j12] at h; cases h)⟩
  | succ n ih =>
    obtain ⟨ih0, ih1, ih2⟩ := ih
    refine ⟨?_, ?_, ?_⟩
    · intro a0 a1 p3_0 p3_1 p3_2 r h
      rw [s_l00Put_l10] at h
      refine posF_of rfl rfl ?_
      try simp only [go_sem]
      refine loop_i ?_
      try simp only [go_sem]
      refine cond_i (fun hb1 => ?_) (fun hb1 => ?_)
      · replace h := ifT (c := (decide (p3_2 < ((List.length a0 : Nat) : Int)))) hb1 h
        try simp only [go_sem]
        refine seq_go ?_
        try simp only [go_sem]
        refine cond_i (fun hb2 => ?_) (fun hb2 => ?_)
        · replace h := ifT (c := (!p3_1)) hb2 h
          try simp only [go_sem]
          replace h := bindE h
          obtain ⟨v7005, hv7005, h⟩ := h
          refine idx_m hv7005 rfl ?_
          try simp only [go_sem]
          have hj := posF_to rfl rfl (ih1 a0 a1 p3_0 p3_1 p3_2 (decide (a1 ≤ v7005)) _ h)
          refine seq_to hj (.one ⟨_, .done _, [(1000004000, 1000003000)], [], ?_⟩)
          clear hj
          try simp only [go_sem]
        · replace h := ifF (c := (!p3_1)) hb2 h
          try simp only [go_sem]
          have hj := posF_to rfl rfl (ih1 a0 a1 p3_0 p3_1 p3_2 false _ h)
          refine seq_to hj (.one ⟨_, .done _, [(1000004000, 1000003000)], [], ?_⟩)
          clear hj
          try simp only [go_sem]
      · replace h := ifF (c := (decide (p3_2 < ((List.length a0 : Nat) : Int)))) hb1 h
        try simp only [go_sem]
        refine seq_go ?_
        try simp only [go_sem]
        refine cond_i (fun hb3 => ?_) (fun hb3 => ?_)
        · replace h := ifT (c := (!p3_1)) hb3 h
          try simp only [go_sem]
          replace h := bindE h
          obtain ⟨v13003, hv13003, h⟩ := h
          have hq_ := app_some hv13003
          obtain ⟨hv13003a, hv13003b⟩ := hq_
          refine and_i (by refine ⟨?_, ?_⟩ <;> (try simp only [List.length_map, List.length_append, List.length_cons, List.length_nil] at *) <;> (try unfold maxLen) <;> omega) ?_
          try simp only [go_sem]
          refine row_i (List.map i64D v13003) (by rw [← hv13003b]; simp only [List.map_append, List.map_cons, List.map_nil, List.nil_append, List.append_nil, go_sem, slD]) ?_
          try simp only [go_sem]
          refine seq_go ?_
          try simp only [go_sem]
          replace h := Option.some.inj h
          obtain rfl := h
          simp only [go_sem]
        · replace h := ifF (c := (!p3_1)) hb3 h
          try simp only [go_sem]
          refine seq_go ?_
          try simp only [go_sem]
          replace h := Option.some.inj h
          obtain rfl := h
          simp only [go_sem]
    · intro a0 a1 p3_0 p3_1 p3_2 p4_0 r h
      rw [s_l00Put_j11] at h
      refine posF_of rfl rfl ?_
      try simp only [go_sem]
      refine cond_i (fun hb4 => ?_) (fun hb4 => ?_)
      · replace h := ifT (c := p4_0) hb4 h
        try simp only [go_sem]
        replace h := bindE h
        obtain ⟨v9002, hv9002, h⟩ := h
        refine idx_m hv9002 rfl ?_
        try simp only [go_sem]
        refine cond_i (fun hb5 => ?_) (fun hb5 => ?_)
        · replace h := ifT (c := (decide (a1 < v9002))) hb5 h
          try simp only [go_sem]
          replace h := bindE h
          obtain ⟨v10003, hv10003, h⟩ := h
          have hq_ := app_some hv10003
          obtain ⟨hv10003a, hv10003b⟩ := hq_
          refine and_i (by refine ⟨?_, ?_⟩ <;> (try simp only [List.length_map, List.length_append, List.length_cons, List.length_nil] at *) <;> (try unfold maxLen) <;> omega) ?_
          try simp only [go_sem]
          refine row_i (List.map i64D v10003) (by rw [← hv10003b]; simp only [List.map_append, List.map_cons, List.map_nil, List.nil_append, List.append_nil, go_sem, slD]) ?_
          try simp only [go_sem]
          have hj := posF_to rfl rfl (ih2 a0 a1 p3_2 v10003 true _ h)
          refine seq_to hj (.one ⟨_, .done _, [(1000005000, 160048)], [], ?_⟩)
          clear hj
          try simp only [go_sem]
        · replace h := ifF (c := (decide (a1 < v9002))) hb5 h
          try simp only [go_sem]
          have hj := posF_to rfl rfl (ih2 a0 a1 p3_2 p3_0 true _ h)
          refine seq_to hj (.one ⟨_, .done _, [(1000005000, 1000004000)], [], ?_⟩)
          clear hj
          try simp only [go_sem]
      · replace h := ifF (c := p4_0) hb4 h
        try simp only [go_sem]
        have hj := posF_to rfl rfl (ih2 a0 a1 p3_2 p3_0 p3_1 _ h)
        refine seq_to hj (.one ⟨_, .done _, [(1000005000, 1000004000)], [], ?_⟩)
        clear hj
        try simp only [go_sem]
    · intro a0 a1 p3_2 p5_0 p5_1 r h
      rw [s_l00Put_j12] at h
      refine posF_of rfl rfl ?_
      try simp only [go_sem]
      replace h := bindE h
      obtain ⟨v11003, hv11003, h⟩ := h
      refine idx_m hv11003 rfl ?_
      try simp only [go_sem]
      replace h := bindE h
      obtain ⟨v11006, hv11006, h⟩ := h
      have hq_ := app_some hv11006
      obtain ⟨hv11006a, hv11006b⟩ := hq_
      refine and_i (by refine ⟨?_, ?_⟩ <;> (try simp only [List.length_map, List.length_append, List.length_cons, List.length_nil] at *) <;> (try unfold maxLen) <;> omega) ?_
      try simp only [go_sem]
      refine row_i (List.map i64D v11006) (by rw [← hv11006b]; simp only [List.map_append, List.map_cons, List.map_nil, List.nil_append, List.append_nil, go_sem, slD]) ?_
      try simp only [go_sem]
      refine seq_go ?_
      try simp only [go_sem]
      have hj := posF_to rfl rfl (ih0 a0 a1 v11006 p5_1 (IntKind.i64.wrap (p3_2 + 1)) _ h)
      refine lp_to hj (.one ⟨_, .done _, [(1000003000, 176096)], [], ?_⟩)
      clear hj
      try simp only [go_sem]
theorem s_l00Put_l10_ok (n : Nat) : (∀ (a0 : List Int) (a1 : Int) (p3_0 : List Int) (p3_1 : Bool) (p3_2 : Int) (r : (List Int)), s_l00Put_l10 n a0 a1 p3_0 p3_1 p3_2 = some r → posF Try.prog Try.f218 [1, 1, 1, 0, 1, 0] (.ow (some 1) (List.map i64D r)) ⟨[(0, .ro (List.map i64D a0)), (1, .int .i64 a1), (5, .own 1000003000), (6, .bool p3_1), (7, .int .i64 p3_2)], [(1000003000, some ⟨List.map i64D p3_0, some 1, 0⟩)], []⟩) := (s_l00Put_l10_all n).1
theorem s_l00Put_j11_ok (n : Nat) : (∀ (a0 : List Int) (a1 : Int) (p3_0 : List Int) (p3_1 : Bool) (p3_2 : Int) (p4_0 : Bool) (r : (List Int)), s_l00Put_j11 n a0 a1 p3_0 p3_1 p3_2 p4_0 = some r → posF Try.prog Try.f218 [1, 1, 1, 0, 1, 0, 0, 1, 0, 0, 0, 1] (.ow (some 1) (List.map i64D r)) ⟨[(0, .ro (List.map i64D a0)), (1, .int .i64 a1), (5, .own 1000004000), (6, .bool p3_1), (7, .int .i64 p3_2), (24, .bool p4_0)], [(1000004000, some ⟨List.map i64D p3_0, some 1, 0⟩)], []⟩) := (s_l00Put_l10_all n).2.1
theorem s_l00Put_j12_ok (n : Nat) : (∀ (a0 : List Int) (a1 : Int) (p3_2 : Int) (p5_0 : List Int) (p5_1 : Bool) (r : (List Int)), s_l00Put_j12 n a0 a1 p3_2 p5_0 p5_1 = some r → posF Try.prog Try.f218 [1, 1, 1, 0, 1, 0, 0, 1, 0, 0, 1] (.ow (some 1) (List.map i64D r)) ⟨[(0, .ro (List.map i64D a0)), (1, .int .i64 a1), (5, .own 1000005000), (6, .bool p5_1), (7, .int .i64 p3_2)], [(1000005000, some ⟨List.map i64D p5_0, some 1, 0⟩)], []⟩) := (s_l00Put_l10_all n).2.2

theorem s_l00Put_ok (a0 : List Int) (a1 : Int) (r : (List Int)) (h : s_l00Put a0 a1 = some r) : AC Try.prog 218 [.ro (List.map i64D a0), .int .i64 a1] (.ow (some 1) (List.map i64D r)) := by
  unfold s_l00Put at h
  refine ac_fn mixed Try.func218 rfl rfl rfl (by kernel_rfl) (by kernel_rfl) ?_
  try simp only [go_sem]
  have hj := posF_to rfl rfl (s_l00Put_l10_ok fuel a0 a1 [] false 0 _ h)
  refine loop_to hj (.one ⟨_, .lit 5 2000000000 2000 0 1 [] _ _ (by (first | rfl | (simp only [go_sem]; rfl))) (by simp only [go_sem]; rfl) (by (first | rfl | (simp only [go_sem]; rfl))) (by (first | rfl | (simp only [go_sem]; rfl))) (by decide) (by decide) (by simp only [go_sem]) (.done _), [(1000003000, 2000000000)], [], ?_⟩)
  clear hj
  simp only [go_sem]
  all_goals try rfl
theorem s_l35Names_all (n : Nat) : (∀ (a0 : Core) (a1 : List Int) (r : (List Int)), s_l35Names n a0 a1 = some r → AG Try.prog 213 [.rop [.int .i64 a0.kind, .int .i64 a0.value, .ro (List.map i64D a0.data), .ro (List.map Core.ds a0.kids)] 0, .own 1001] [(1001, ⟨List.map i64D a1, some 1, 0⟩)] [] (.own 1501) [(1501, ⟨List.map i64D r, some 1, 0⟩)] []) ∧
    (∀ (a0 : Core) (p0_0 : List Int) (r : (List Int)), s_l35Names_j1 n a0 p0_0 = some r → posG Try.prog Try.f213 [1, 1] (.own 1501) [(1501, ⟨List.map i64D r, some 1, 0⟩)] [] ⟨[(0, .rop [.int .i64 a0.kind, .int .i64 a0.value, .ro (List.map i64D a0.data), .ro (List.map Core.ds a0.kids)] 0), (1, .own 1000000000)], [(1000000000, some ⟨List.map i64D p0_0, some 1, 0⟩)], []⟩) ∧
    (∀ (a0 : Core) (p2_0 : List Int) (p2_1 : Int) (r : (List Int)), s_l35Names_l3 n a0 p2_0 p2_1 = some r → posG Try.prog Try.f213 [1, 1, 0, 1, 0] (.own 1501) [(1501, ⟨List.map i64D r, some 1, 0⟩)] [] ⟨[(0, .rop [.int .i64 a0.kind, .int .i64 a0.value, .ro (List.map i64D a0.data), .ro (List.map Core.ds a0.kids)] 0), (1, .own 1000002000), (5, .int .i64 p2_1)], [(1000002000, some ⟨List.map i64D p2_0, some 1, 0⟩)], []⟩) ∧
    (∀ (a0 : Core) (p4_0 : List Int) (p4_1 : Int) (r : (List Int)), s_l35Names_l5 n a0 p4_0 p4_1 = some r → posG Try.prog Try.f213 [1, 1, 1, 0, 1, 0] (.own 1501) [(1501, ⟨List.map i64D r, some 1, 0⟩)] [] ⟨[(0, .rop [.int .i64 a0.kind, .int .i64 a0.value, .ro (List.map i64D a0.data), .ro (List.map Core.ds a0.kids)] 0), (1, .own 1000004000), (6, .int .i64 p4_1)], [(1000004000, some ⟨List.map i64D p4_0, some 1, 0⟩)], []⟩) := by
  induction n with
  | zero => exact ⟨(fun _ _ _ h => by rw [s_l35Names] at h; cases h), (fun _ _ _ h => by rw [s_l35Names_j1] at h; cases h), (fun _ _ _ _ h => by rw [s_l35Names_l3] at h; cases h), (fun _ _ _ _ h => by rw [s_l35Names_l5] at h; cases h)⟩
  | succ n ih =>
    obtain ⟨ih0, ih1, ih2, ih3⟩ := ih
    refine ⟨?_, ?_, ?_, ?_⟩
    · intro a0 a1 r h
      rw [s_l35Names] at h
      refine ag_fn mixed Try.func213 rfl rfl rfl (by kernel_rfl) (by kernel_rfl) ?_
      try simp only [go_sem]
      refine cond_i (fun hb1 => ?_) (fun hb1 => ?_)
      · replace h := ifT (c := (decide (a0.kind = 11))) hb1 h
        try simp only [go_sem]
        replace h := bindE h
        obtain ⟨v3005, hv3005, h⟩ := h
        refine call_i (s_l00Put_ok _ _ _ hv3005) ?_
        try simp only [go_sem]
        have hj := posG_to rfl rfl (ih1 a0 v3005 _ h)
        refine seq_to hj (.one ⟨_, .done _, [(1000000000, 48080)], [], ?_⟩)
        clear hj
        try simp only [go_sem]
      · replace h := ifF (c := (decide (a0.kind = 11))) hb1 h
        try simp only [go_sem]
        have hj := posG_to rfl rfl (ih1 a0 a1 _ h)
        refine seq_to hj (.one ⟨_, .done _, [(1000000000, 1001)], [], ?_⟩)
        clear hj
        try simp only [go_sem]
    · intro a0 p0_0 r h
      rw [s_l35Names_j1] at h
      refine posG_of rfl rfl ?_
      try simp only [go_sem]
      have hj := posG_to rfl rfl (ih2 a0 p0_0 0 _ h)
      refine loop_to hj (.one ⟨_, .done _, [(1000002000, 1000000000)], [], ?_⟩)
      clear hj
      try simp only [go_sem]
    · intro a0 p2_0 p2_1 r h
      rw [s_l35Names_l3] at h
      refine posG_of rfl rfl ?_
      try simp only [go_sem]
      refine loop_i ?_
      try simp only [go_sem]
      refine cond_i (fun hb2 => ?_) (fun hb2 => ?_)
      · replace h := ifT (c := (decide (p2_1 < ((List.length a0.data : Nat) : Int)))) hb2 h
        try simp only [go_sem]
        refine seq_go ?_
        try simp only [go_sem]
        replace h := bindE h
        obtain ⟨v7006, hv7006, h⟩ := h
        refine idx_m hv7006 rfl ?_
        try simp only [go_sem]
        replace h := bindE h
        obtain ⟨v7008, hv7008, h⟩ := h
        refine call_i (s_l00Put_ok _ _ _ hv7008) ?_
        try simp only [go_sem]
        refine seq_go ?_
        try simp only [go_sem]
        have hj := posG_to rfl rfl (ih2 a0 v7008 (IntKind.i64.wrap (p2_1 + 1)) _ h)
        refine lp_to hj (.one ⟨_, .done _, [(1000002000, 112128)], [], ?_⟩)
        clear hj
        try simp only [go_sem]
      · replace h := ifF (c := (decide (p2_1 < ((List.length a0.data : Nat) : Int)))) hb2 h
        try simp only [go_sem]
        refine seq_go ?_
        try simp only [go_sem]
        have hj := posG_to rfl rfl (ih3 a0 p2_0 0 _ h)
        refine loop_to hj (.one ⟨_, .done _, [(1000004000, 1000002000)], [], ?_⟩)
        clear hj
        try simp only [go_sem]
    · intro a0 p4_0 p4_1 r h
      rw [s_l35Names_l5] at h
      refine posG_of rfl rfl ?_
      try simp only [go_sem]
      refine loop_i ?_
      try simp only [go_sem]
      refine cond_i (fun hb3 => ?_) (fun hb3 => ?_)
      · replace h := ifT (c := (decide (p4_1 < ((List.length a0.kids : Nat) : Int)))) hb3 h
        try simp only [go_sem]
        refine seq_go ?_
        try simp only [go_sem]
        replace h := bindE h
        obtain ⟨v11005, hv11005, h⟩ := h
        refine idx_m hv11005 (Core.ds_len _) ?_
        try simp only [go_sem]
        replace h := bindE h
        obtain ⟨v11007, hv11007, h⟩ := h
        refine call_g ⟨[], [(1001, 1000004000)], [], [(1501, 176112)], [], true⟩ (by kernel_rfl) (ih0 _ _ _ hv11007) (by kernel_rfl) ?_
        try simp only [go_sem]
        refine seq_go ?_
        try simp only [go_sem]
        have hj := posG_to rfl rfl (ih3 a0 v11007 (IntKind.i64.wrap (p4_1 + 1)) _ h)
        refine lp_to hj (.one ⟨_, .done _, [(1000004000, 176112)], [], ?_⟩)
        clear hj
        try simp only [go_sem]
      · replace h := ifF (c := (decide (p4_1 < ((List.length a0.kids : Nat) : Int)))) hb3 h
        try simp only [go_sem]
        refine seq_go ?_
        try simp only [go_sem]
        replace h := Option.some.inj h
        obtain rfl := h
        refine ret_i (.done _) [(1501, 1000004000)] [] ?_
        simp only [go_sem]
theorem s_l35Names_ok (n : Nat) : (∀ (a0 : Core) (a1 : List Int) (r : (List Int)), s_l35Names n a0 a1 = some r → AG Try.prog 213 [.rop [.int .i64 a0.kind, .int .i64 a0.value, .ro (List.map i64D a0.data), .ro (List.map Core.ds a0.kids)] 0, .own 1001] [(1001, ⟨List.map i64D a1, some 1, 0⟩)] [] (.own 1501) [(1501, ⟨List.map i64D r, some 1, 0⟩)] []) := (s_l35Names_all n).1
theorem s_l35Names_j1_ok (n : Nat) : (∀ (a0 : Core) (p0_0 : List Int) (r : (List Int)), s_l35Names_j1 n a0 p0_0 = some r → posG Try.prog Try.f213 [1, 1] (.own 1501) [(1501, ⟨List.map i64D r, some 1, 0⟩)] [] ⟨[(0, .rop [.int .i64 a0.kind, .int .i64 a0.value, .ro (List.map i64D a0.data), .ro (List.map Core.ds a0.kids)] 0), (1, .own 1000000000)], [(1000000000, some ⟨List.map i64D p0_0, some 1, 0⟩)], []⟩) := (s_l35Names_all n).2.1
theorem s_l35Names_l3_ok (n : Nat) : (∀ (a0 : Core) (p2_0 : List Int) (p2_1 : Int) (r : (List Int)), s_l35Names_l3 n a0 p2_0 p2_1 = some r → posG Try.prog Try.f213 [1, 1, 0, 1, 0] (.own 1501) [(1501, ⟨List.map i64D r, some 1, 0⟩)] [] ⟨[(0, .rop [.int .i64 a0.kind, .int .i64 a0.value, .ro (List.map i64D a0.data), .ro (List.map Core.ds a0.kids)] 0), (1, .own 1000002000), (5, .int .i64 p2_1)], [(1000002000, some ⟨List.map i64D p2_0, some 1, 0⟩)], []⟩) := (s_l35Names_all n).2.2.1
theorem s_l35Names_l5_ok (n : Nat) : (∀ (a0 : Core) (p4_0 : List Int) (p4_1 : Int) (r : (List Int)), s_l35Names_l5 n a0 p4_0 p4_1 = some r → posG Try.prog Try.f213 [1, 1, 1, 0, 1, 0] (.own 1501) [(1501, ⟨List.map i64D r, some 1, 0⟩)] [] ⟨[(0, .rop [.int .i64 a0.kind, .int .i64 a0.value, .ro (List.map i64D a0.data), .ro (List.map Core.ds a0.kids)] 0), (1, .own 1000004000), (6, .int .i64 p4_1)], [(1000004000, some ⟨List.map i64D p4_0, some 1, 0⟩)], []⟩) := (s_l35Names_all n).2.2.2

theorem s_l35Uses_l2_all (n : Nat) : (∀ (a0 : Book) (p1_0 : List (List Int)) (p1_1 : Int) (r : (List (List Int))), s_l35Uses_l2 n a0 p1_0 p1_1 = some r → posF Try.prog Try.f123 [1, 1, 0, 1, 0] (.ow (some 1) (List.map (slD i64D) r)) ⟨[(0, .rop [.ro (List.map Core.ds a0.defs)] 0), (3, .own 1000001000), (4, .int .i64 p1_1)], [(1000001000, some ⟨List.map (slD i64D) p1_0, some 1, 0⟩)], []⟩) := by
  induction n with
  | zero => exact ((fun _ _ _ _ h => by rw [s_l35Uses_l2] at h; cases h))
  | succ n ih =>
    have ih0 := ih
    · intro a0 p1_0 p1_1 r h
      rw [s_l35Uses_l2] at h
      refine posF_of rfl rfl ?_
      try simp only [go_sem]
      refine loop_i ?_
      try simp only [go_sem]
      refine cond_i (fun hb1 => ?_) (fun hb1 => ?_)
      · replace h := ifT (c := (decide (p1_1 < ((List.length a0.defs : Nat) : Int)))) hb1 h
        try simp only [go_sem]
        refine seq_go ?_
        try simp only [go_sem]
        replace h := bindE h
        obtain ⟨v6006, hv6006, h⟩ := h
        refine idx_m hv6006 (Core.ds_len _) ?_
        try simp only [go_sem]
        replace h := bindE h
        obtain ⟨v6008, hv6008, h⟩ := h
        refine call_g ⟨[(3000096128, .bsl 6007 0 1, some 1)], [(1001, 3000096128)], [], [(1501, 96128)], [], true⟩ (by kernel_rfl) (s_l35Names_ok fuel _ _ _ hv6008) (by kernel_rfl) ?_
        try simp only [go_sem]
        replace h := bindE h
        obtain ⟨v6010, hv6010, h⟩ := h
        have hq_ := app_some hv6010
        obtain ⟨hv6010a, hv6010b⟩ := hq_
        refine and_i (by refine ⟨?_, ?_⟩ <;> (try simp only [List.length_map, List.length_append, List.length_cons, List.length_nil] at *) <;> (try unfold maxLen) <;> omega) ?_
        try simp only [go_sem]
        refine row_i (List.map (slD i64D) v6010) (by rw [← hv6010b]; simp only [List.map_append, List.map_cons, List.map_nil, List.nil_append, List.append_nil, go_sem, slD]) ?_
        try simp only [go_sem]
        refine seq_go ?_
        try simp only [go_sem]
        have hj := posF_to rfl rfl (ih0 a0 v6010 (IntKind.i64.wrap (p1_1 + 1)) _ h)
        refine lp_to hj (.one ⟨_, .done _, [(1000001000, 96160)], [], ?_⟩)
        clear hj
        try simp only [go_sem]
      · replace h := ifF (c := (decide (p1_1 < ((List.length a0.defs : Nat) : Int)))) hb1 h
        try simp only [go_sem]
        refine seq_go ?_
        try simp only [go_sem]
        replace h := Option.some.inj h
        obtain rfl := h
        simp only [go_sem]
theorem s_l35Uses_l2_ok (n : Nat) : (∀ (a0 : Book) (p1_0 : List (List Int)) (p1_1 : Int) (r : (List (List Int))), s_l35Uses_l2 n a0 p1_0 p1_1 = some r → posF Try.prog Try.f123 [1, 1, 0, 1, 0] (.ow (some 1) (List.map (slD i64D) r)) ⟨[(0, .rop [.ro (List.map Core.ds a0.defs)] 0), (3, .own 1000001000), (4, .int .i64 p1_1)], [(1000001000, some ⟨List.map (slD i64D) p1_0, some 1, 0⟩)], []⟩) := (s_l35Uses_l2_all n)

theorem s_l35Uses_ok (a0 : Book) (r : (List (List Int))) (h : s_l35Uses a0 = some r) : AC Try.prog 123 [.rop (Book.avs a0) 0] (.ow (some 1) (List.map (slD i64D) r)) := by
  unfold s_l35Uses at h
  refine ac_fn mixed Try.func123 rfl rfl rfl (by kernel_rfl) (by kernel_rfl) ?_
  try simp only [go_sem]
  have hj := posF_to rfl rfl (s_l35Uses_l2_ok fuel a0 [] 0 _ h)
  refine loop_to hj (.one ⟨_, .lit 3 2000000000 2000 0 1 [] _ _ (by (first | rfl | (simp only [go_sem]; rfl))) (by simp only [go_sem]; rfl) (by (first | rfl | (simp only [go_sem]; rfl))) (by (first | rfl | (simp only [go_sem]; rfl))) (by decide) (by decide) (by simp only [go_sem]) (.done _), [(1000001000, 2000000000)], [], ?_⟩)
  clear hj
  simp only [go_sem]
  all_goals try rfl
theorem s_BookUses_ok (a0 : Book) (r : (List (List Int)) × Int) (h : s_BookUses a0 = some r) : AC Try.prog 54 [.agg (Book.avs a0)] (.tup [.ow (some 1) (List.map (slD i64D) r.1), .int .i64 r.2]) := by
  unfold s_BookUses at h
  refine ac_fn mixed Try.func54 rfl rfl rfl (by kernel_rfl) (by kernel_rfl) ?_
  try simp only [go_sem]
  replace h := bindE h
  obtain ⟨v2000, hv2000, h⟩ := h
  refine call_i (s_l06Book_ok _ _ hv2000) ?_
  try simp only [go_sem]
  refine cond_i (fun hb1 => ?_) (fun hb1 => ?_)
  · replace h := ifT (c := (!v2000)) hb1 h
    try simp only [go_sem]
    replace h := Option.some.inj h
    obtain rfl := h
    simp only [go_sem]
  · replace h := ifF (c := (!v2000)) hb1 h
    try simp only [go_sem]
    refine seq_go ?_
    try simp only [go_sem]
    replace h := bindE h
    obtain ⟨v4000, hv4000, h⟩ := h
    refine call_i (s_l35Uses_ok _ _ hv4000) ?_
    try simp only [go_sem]
    replace h := Option.some.inj h
    obtain rfl := h
    simp only [go_sem]
theorem i_namedDefs_all (n : Nat) : (∀ (a0 : Core) (a1 : List Int) (r : (List Int)), i_namedDefs n a0 a1 = some r → AG Try.prog 214 [.agg [.int .i64 a0.kind, .int .i64 a0.value, .ro (List.map i64D a0.data), .ro (List.map Core.ds a0.kids)], .own 1001] [(1001, ⟨List.map i64D a1, some 1, 0⟩)] [] (.own 1501) [(1501, ⟨List.map i64D r, some 1, 0⟩)] []) ∧
    (∀ (a0 : Core) (p0_0 : List Int) (r : (List Int)), i_namedDefs_j1 n a0 p0_0 = some r → posG Try.prog Try.f214 [1, 1] (.own 1501) [(1501, ⟨List.map i64D r, some 1, 0⟩)] [] ⟨[(1, .own 1000000000), (2, .box 1000000500 0)], [(1000000000, some ⟨List.map i64D p0_0, some 1, 0⟩)], [(1000000500, some [.int .i64 a0.kind, .int .i64 a0.value, .ro (List.map i64D a0.data), .ro (List.map Core.ds a0.kids)])]⟩) ∧
    (∀ (a0 : Core) (p2_0 : List Int) (p2_1 : Int) (r : (List Int)), i_namedDefs_l3 n a0 p2_0 p2_1 = some r → posG Try.prog Try.f214 [1, 1, 1, 0, 1, 0] (.own 1501) [(1501, ⟨List.map i64D r, some 1, 0⟩)] [] ⟨[(1, .own 1000002000), (20, .ro (List.map Core.ds a0.kids)), (21, .int .i64 ((List.length a0.kids : Nat) : Int)), (22, .int .i64 p2_1)], [(1000002000, some ⟨List.map i64D p2_0, some 1, 0⟩)], []⟩) := by
  induction n with
  | zero => exact ⟨(fun _ _ _ h => by rw [i_namedDefs] at h; cases h), (fun _ _ _ h => by rw [i_namedDefs_j1] at h; cases h), (fun _ _ _ _ h => by rw [i_namedDefs_l3] at h; cases h)⟩
  | succ n ih =>
    obtain ⟨ih0, ih1, ih2⟩ := ih
    refine ⟨?_, ?_, ?_⟩
    · intro a0 a1 r h
      rw [i_namedDefs] at h
      refine ag_fn mixed Try.func214 rfl rfl rfl (by kernel_rfl) (by kernel_rfl) ?_
      try simp only [go_sem]
      refine cond_i (fun hb1 => ?_) (fun hb1 => ?_)
      · replace h := ifT (c := (decide (a0.kind = 11))) hb1 h
        try simp only [go_sem]
        replace h := bindE h
        obtain ⟨v3004, hv3004, h⟩ := h
        have hq_ := app_some hv3004
        obtain ⟨hv3004a, hv3004b⟩ := hq_
        refine and_i (by refine ⟨?_, ?_⟩ <;> (try simp only [List.length_map, List.length_append, List.length_cons, List.length_nil] at *) <;> (try unfold maxLen) <;> omega) ?_
        try simp only [go_sem]
        refine row_i (List.map i64D v3004) (by rw [← hv3004b]; simp only [List.map_append, List.map_cons, List.map_nil, List.nil_append, List.append_nil, go_sem, slD]) ?_
        try simp only [go_sem]
        have hj := posG_to rfl rfl (ih1 a0 v3004 _ h)
        refine seq_to hj (.one ⟨_, .done _, [(1000000000, 48064)], [(1000000500, 1000)], ?_⟩)
        clear hj
        try simp only [go_sem]
      · replace h := ifF (c := (decide (a0.kind = 11))) hb1 h
        try simp only [go_sem]
        have hj := posG_to rfl rfl (ih1 a0 a1 _ h)
        refine seq_to hj (.one ⟨_, .done _, [(1000000000, 1001)], [(1000000500, 1000)], ?_⟩)
        clear hj
        try simp only [go_sem]
    · intro a0 p0_0 r h
      rw [i_namedDefs_j1] at h
      refine posG_of rfl rfl ?_
      try simp only [go_sem]
      replace h := bindE h
      obtain ⟨v4003, hv4003, h⟩ := h
      have hq_ := app_some hv4003
      obtain ⟨hv4003a, hv4003b⟩ := hq_
      refine and_i (flat_rows_of (by intro x; exact ⟨rfl, by simp [go_sem, D.flat]⟩) _) ?_
      try simp only [go_sem]
      refine and_i (by refine ⟨?_, ?_⟩ <;> (try simp only [List.length_map, List.length_append, List.length_cons, List.length_nil] at *) <;> (try unfold maxLen) <;> omega) ?_
      try simp only [go_sem]
      refine row_i (List.map i64D v4003) (by rw [← hv4003b]; simp only [List.map_append, List.map_cons, List.map_nil, List.nil_append, List.append_nil, go_sem, slD]) ?_
      try simp only [go_sem]
      have hj := posG_to rfl rfl (ih2 a0 v4003 0 _ h)
      refine loop_to hj (.one ⟨_, .done _, [(1000002000, 64048)], [], ?_⟩)
      clear hj
      try simp only [go_sem]
    · intro a0 p2_0 p2_1 r h
      rw [i_namedDefs_l3] at h
      refine posG_of rfl rfl ?_
      try simp only [go_sem]
      refine loop_i ?_
      try simp only [go_sem]
      refine cond_i (fun hb2 => ?_) (fun hb2 => ?_)
      · replace h := ifT (c := (decide (p2_1 < ((List.length a0.kids : Nat) : Int)))) hb2 h
        try simp only [go_sem]
        refine seq_go ?_
        try simp only [go_sem]
        replace h := bindE h
        obtain ⟨v7000, hv7000, h⟩ := h
        refine idx_m hv7000 (Core.ds_len _) ?_
        try simp only [go_sem]
        replace h := bindE h
        obtain ⟨v8002, hv8002, h⟩ := h
        refine call_g ⟨[], [(1001, 1000002000)], [], [(1501, 128032)], [], true⟩ (by kernel_rfl) (ih0 _ _ _ hv8002) (by kernel_rfl) ?_
        try simp only [go_sem]
        refine seq_go ?_
        try simp only [go_sem]
        have hj := posG_to rfl rfl (ih2 a0 v8002 (IntKind.i64.wrap (p2_1 + 1)) _ h)
        refine lp_to hj (.one ⟨_, .done _, [(1000002000, 128032)], [], ?_⟩)
        clear hj
        try simp only [go_sem]
      · replace h := ifF (c := (decide (p2_1 < ((List.length a0.kids : Nat) : Int)))) hb2 h
        try simp only [go_sem]
        refine seq_go ?_
        try simp only [go_sem]
        replace h := Option.some.inj h
        obtain rfl := h
        refine ret_i (.done _) [(1501, 1000002000)] [] ?_
        simp only [go_sem]
theorem i_namedDefs_ok (n : Nat) : (∀ (a0 : Core) (a1 : List Int) (r : (List Int)), i_namedDefs n a0 a1 = some r → AG Try.prog 214 [.agg [.int .i64 a0.kind, .int .i64 a0.value, .ro (List.map i64D a0.data), .ro (List.map Core.ds a0.kids)], .own 1001] [(1001, ⟨List.map i64D a1, some 1, 0⟩)] [] (.own 1501) [(1501, ⟨List.map i64D r, some 1, 0⟩)] []) := (i_namedDefs_all n).1
theorem i_namedDefs_j1_ok (n : Nat) : (∀ (a0 : Core) (p0_0 : List Int) (r : (List Int)), i_namedDefs_j1 n a0 p0_0 = some r → posG Try.prog Try.f214 [1, 1] (.own 1501) [(1501, ⟨List.map i64D r, some 1, 0⟩)] [] ⟨[(1, .own 1000000000), (2, .box 1000000500 0)], [(1000000000, some ⟨List.map i64D p0_0, some 1, 0⟩)], [(1000000500, some [.int .i64 a0.kind, .int .i64 a0.value, .ro (List.map i64D a0.data), .ro (List.map Core.ds a0.kids)])]⟩) := (i_namedDefs_all n).2.1
theorem i_namedDefs_l3_ok (n : Nat) : (∀ (a0 : Core) (p2_0 : List Int) (p2_1 : Int) (r : (List Int)), i_namedDefs_l3 n a0 p2_0 p2_1 = some r → posG Try.prog Try.f214 [1, 1, 1, 0, 1, 0] (.own 1501) [(1501, ⟨List.map i64D r, some 1, 0⟩)] [] ⟨[(1, .own 1000002000), (20, .ro (List.map Core.ds a0.kids)), (21, .int .i64 ((List.length a0.kids : Nat) : Int)), (22, .int .i64 p2_1)], [(1000002000, some ⟨List.map i64D p2_0, some 1, 0⟩)], []⟩) := (i_namedDefs_all n).2.2

theorem i_Book_usesIn_ok (a0 : Book) (a1 : Int) (r : (List Int)) (h : i_Book_usesIn a0 a1 = some r) : AC Try.prog 124 [.agg (Book.avs a0), .int .i64 a1] (.ow (some 1) (List.map i64D r)) := by
  unfold i_Book_usesIn at h
  refine ac_fn mixed Try.func124 rfl rfl rfl (by kernel_rfl) (by kernel_rfl) ?_
  try simp only [go_sem]
  replace h := bindE h
  obtain ⟨v2003, hv2003, h⟩ := h
  refine idx_m hv2003 (Core.ds_len _) ?_
  try simp only [go_sem]
  replace h := bindE h
  obtain ⟨v2005, hv2005, h⟩ := h
  refine call_g ⟨[(3000032080, .nils, some 1)], [(1001, 3000032080)], [], [(1501, 32080)], [], true⟩ (by kernel_rfl) (i_namedDefs_ok fuel _ _ _ hv2005) (by kernel_rfl) ?_
  try simp only [go_sem]
  replace h := bindE h
  obtain ⟨v3001, hv3001, h⟩ := h
  refine call_g ⟨[], [(1, 32080)], [], [], [], true⟩ (by kernel_rfl) (g_Sort_sint64_ok _ (some 1) _ hv3001) (by kernel_rfl) ?_
  try simp only [go_sem]
  replace h := bindE h
  obtain ⟨v4001, hv4001, h⟩ := h
  refine call_g ⟨[], [(1001, 32080)], [], [(1501, 64016)], [], true⟩ (by kernel_rfl) (g_Compact_sint64_ok _ _ hv4001) (by kernel_rfl) ?_
  try simp only [go_sem]
  replace h := Option.some.inj h
  obtain rfl := h
  simp only [go_sem]
theorem i_BookUses_l2_all (n : Nat) : (∀ (a0 : Book) (p1_0 : List (List Int)) (p1_1 : Int) (r : (List (List Int)) × Int), i_BookUses_l2 n a0 p1_0 p1_1 = some r → posF Try.prog Try.f55 [1, 1, 1, 0, 1, 0] (.tup [.ow (some 1) (List.map (slD i64D) r.1), .int .i64 r.2]) ⟨[(1, .box 1000001500 0), (4, .own 1000001000), (11, .int .i64 ((List.length a0.defs : Nat) : Int)), (12, .int .i64 p1_1)], [(1000001000, some ⟨List.map (slD i64D) p1_0, some 1, 0⟩)], [(1000001500, some [.ro (List.map Core.ds a0.defs)])]⟩) := by
  induction n with
  | zero => exact ((fun _ _ _ _ h => by rw [i_BookUses_l2] at h; cases h))
  | succ n ih =>
    have ih0 := ih
    · intro a0 p1_0 p1_1 r h
      rw [i_BookUses_l2] at h
      refine posF_of rfl rfl ?_
      try simp only [go_sem]
      refine loop_i ?_
      try simp only [go_sem]
      refine cond_i (fun hb2 => ?_) (fun hb2 => ?_)
      · replace h := ifT (c := (decide (p1_1 < ((List.length a0.defs : Nat) : Int)))) hb2 h
        try simp only [go_sem]
        refine seq_go ?_
        try simp only [go_sem]
        replace h := bindE h
        obtain ⟨v8003, hv8003, h⟩ := h
        refine call_i (i_Book_usesIn_ok _ _ _ hv8003) ?_
        try simp only [go_sem]
        replace h := bindE h
        obtain ⟨v8005, hv8005, h⟩ := h
        have hq_ := app_some hv8005
        obtain ⟨hv8005a, hv8005b⟩ := hq_
        refine and_i (by refine ⟨?_, ?_⟩ <;> (try simp only [List.length_map, List.length_append, List.length_cons, List.length_nil] at *) <;> (try unfold maxLen) <;> omega) ?_
        try simp only [go_sem]
        refine row_i (List.map (slD i64D) v8005) (by rw [← hv8005b]; simp only [List.map_append, List.map_cons, List.map_nil, List.nil_append, List.append_nil, go_sem, slD]) ?_
        try simp only [go_sem]
        refine seq_go ?_
        try simp only [go_sem]
        have hj := posF_to rfl rfl (ih0 a0 v8005 (IntKind.i64.wrap (p1_1 + 1)) _ h)
        refine lp_to hj (.one ⟨_, .done _, [(1000001000, 128080)], [(1000001500, 1000001500)], ?_⟩)
        clear hj
        try simp only [go_sem]
      · replace h := ifF (c := (decide (p1_1 < ((List.length a0.defs : Nat) : Int)))) hb2 h
        try simp only [go_sem]
        refine seq_go ?_
        try simp only [go_sem]
        replace h := Option.some.inj h
        obtain rfl := h
        simp only [go_sem]
theorem i_BookUses_l2_ok (n : Nat) : (∀ (a0 : Book) (p1_0 : List (List Int)) (p1_1 : Int) (r : (List (List Int)) × Int), i_BookUses_l2 n a0 p1_0 p1_1 = some r → posF Try.prog Try.f55 [1, 1, 1, 0, 1, 0] (.tup [.ow (some 1) (List.map (slD i64D) r.1), .int .i64 r.2]) ⟨[(1, .box 1000001500 0), (4, .own 1000001000), (11, .int .i64 ((List.length a0.defs : Nat) : Int)), (12, .int .i64 p1_1)], [(1000001000, some ⟨List.map (slD i64D) p1_0, some 1, 0⟩)], [(1000001500, some [.ro (List.map Core.ds a0.defs)])]⟩) := (i_BookUses_l2_all n)

theorem i_BookUses_ok (a0 : Book) (r : (List (List Int)) × Int) (h : i_BookUses a0 = some r) : AC Try.prog 55 [.agg (Book.avs a0)] (.tup [.ow (some 1) (List.map (slD i64D) r.1), .int .i64 r.2]) := by
  unfold i_BookUses at h
  refine ac_fn mixed Try.func55 rfl rfl rfl (by kernel_rfl) (by kernel_rfl) ?_
  try simp only [go_sem]
  replace h := bindE h
  obtain ⟨v2001, hv2001, h⟩ := h
  refine call_i (i_ValidBook_ok _ _ hv2001) ?_
  try simp only [go_sem]
  refine cond_i (fun hb1 => ?_) (fun hb1 => ?_)
  · replace h := ifT (c := (!v2001)) hb1 h
    try simp only [go_sem]
    replace h := Option.some.inj h
    obtain rfl := h
    simp only [go_sem]
  · replace h := ifF (c := (!v2001)) hb1 h
    try simp only [go_sem]
    refine seq_go ?_
    try simp only [go_sem]
    have hj := posF_to rfl rfl (i_BookUses_l2_ok fuel a0 [] 0 _ h)
    refine loop_to hj (.one ⟨_, .slot 4 2000000000 (some 1) (by simp only [go_sem]) (by simp only [go_sem]) (.done _), [(1000001000, 2000000000)], [(1000001500, 1000)], ?_⟩)
    clear hj
    simp only [go_sem]
    all_goals try rfl
theorem l_eqInt64SS_l1_all (n : Nat) : (∀ (a0 : List (List Int)) (a1 : List (List Int)) (p0_0 : Int) (r : Bool), l_eqInt64SS_l1 n a0 a1 p0_0 = some r → posF Try.prog Try.f56 [1, 1, 0, 1, 0] (.bool r) ⟨[(0, .ro (List.map (slD i64D) a0)), (1, .ro (List.map (slD i64D) a1)), (5, .int .i64 p0_0)], [], []⟩) := by
  induction n with
  | zero => exact ((fun _ _ _ _ h => by rw [l_eqInt64SS_l1] at h; cases h))
  | succ n ih =>
    have ih0 := ih
    · intro a0 a1 p0_0 r h
      rw [l_eqInt64SS_l1] at h
      refine posF_of rfl rfl ?_
      try simp only [go_sem]
      refine loop_i ?_
      try simp only [go_sem]
      refine cond_i (fun hb2 => ?_) (fun hb2 => ?_)
      · replace h := ifT (c := (decide (p0_0 < ((List.length a0 : Nat) : Int)))) hb2 h
        try simp only [go_sem]
        refine seq_go ?_
        try simp only [go_sem]
        refine draw_i [] .fin (by kernel_rfl) ?_
        try simp only [go_sem]
        replace h := bindE h
        obtain ⟨v7002, hv7002, h⟩ := h
        refine idx_m hv7002 rfl ?_
        try simp only [go_sem]
        replace h := bindE h
        obtain ⟨v7006, hv7006, h⟩ := h
        refine idx_m hv7006 rfl ?_
        try simp only [go_sem]
        replace h := bindE h
        obtain ⟨v7008, hv7008, h⟩ := h
        refine call_i (l_eqInt64S_ok _ _ _ hv7008) ?_
        try simp only [go_sem]
        refine seq_go ?_
        try simp only [go_sem]
        refine cond_i (fun hb3 => ?_) (fun hb3 => ?_)
        · replace h := ifT (c := (!v7008)) hb3 h
          try simp only [go_sem]
          replace h := Option.some.inj h
          obtain rfl := h
          simp only [go_sem]
        · replace h := ifF (c := (!v7008)) hb3 h
          try simp only [go_sem]
          refine seq_go ?_
          try simp only [go_sem]
          have hj := posF_to rfl rfl (ih0 a0 a1 (IntKind.i64.wrap (p0_0 + 1)) _ h)
          refine lp_to hj (.one ⟨_, .done _, [], [], ?_⟩)
          clear hj
          try simp only [go_sem]
      · replace h := ifF (c := (decide (p0_0 < ((List.length a0 : Nat) : Int)))) hb2 h
        try simp only [go_sem]
        refine seq_go ?_
        try simp only [go_sem]
        replace h := Option.some.inj h
        obtain rfl := h
        simp only [go_sem]
theorem l_eqInt64SS_l1_ok (n : Nat) : (∀ (a0 : List (List Int)) (a1 : List (List Int)) (p0_0 : Int) (r : Bool), l_eqInt64SS_l1 n a0 a1 p0_0 = some r → posF Try.prog Try.f56 [1, 1, 0, 1, 0] (.bool r) ⟨[(0, .ro (List.map (slD i64D) a0)), (1, .ro (List.map (slD i64D) a1)), (5, .int .i64 p0_0)], [], []⟩) := (l_eqInt64SS_l1_all n)

theorem l_eqInt64SS_ok (a0 : List (List Int)) (a1 : List (List Int)) (r : Bool) (h : l_eqInt64SS a0 a1 = some r) : AC Try.prog 56 [.ro (List.map (slD i64D) a0), .ro (List.map (slD i64D) a1)] (.bool r) := by
  unfold l_eqInt64SS at h
  refine ac_fn mixed Try.func56 rfl rfl rfl (by kernel_rfl) (by kernel_rfl) ?_
  try simp only [go_sem]
  refine cond_i (fun hb1 => ?_) (fun hb1 => ?_)
  · replace h := ifT (c := (!decide (((List.length a0 : Nat) : Int) = ((List.length a1 : Nat) : Int)))) hb1 h
    try simp only [go_sem]
    replace h := Option.some.inj h
    obtain rfl := h
    simp only [go_sem]
  · replace h := ifF (c := (!decide (((List.length a0 : Nat) : Int) = ((List.length a1 : Nat) : Int)))) hb1 h
    try simp only [go_sem]
    refine seq_go ?_
    try simp only [go_sem]
    have hj := posF_to rfl rfl (l_eqInt64SS_l1_ok fuel a0 a1 0 _ h)
    refine loop_to hj (.one ⟨_, .done _, [], [], ?_⟩)
    clear hj
    try simp only [go_sem]
theorem l_markInt64SS_l1_all (n : Nat) : (∀ (p0_0 : List (List Int)) (p0_1 : Int) (p0_2 : Int) (z1 : Option Nat) (r : Int × (List (List Int))), l_markInt64SS_l1 n p0_0 p0_1 p0_2 = some r → posG Try.prog Try.f57 [1, 0, 1, 0] (.int .i64 r.1) [(1, ⟨List.map (slD i64D) r.2, z1, 0⟩)] [] ⟨[(0, .own 1), (1, .int .i64 p0_1), (5, .int .i64 p0_2)], [(1, some ⟨List.map (slD i64D) p0_0, z1, 0⟩)], []⟩) := by
  induction n with
  | zero => exact ((fun _ _ _ _ _ h => by rw [l_markInt64SS_l1] at h; cases h))
  | succ n ih =>
    have ih0 := ih
    · intro p0_0 p0_1 p0_2 z1 r h
      rw [l_markInt64SS_l1] at h
      refine posG_of rfl rfl ?_
      try simp only [go_sem]
      refine loop_i ?_
      try simp only [go_sem]
      refine cond_i (fun hb1 => ?_) (fun hb1 => ?_)
      · replace h := ifT (c := (decide (p0_2 < ((List.length p0_0 : Nat) : Int)))) hb1 h
        try simp only [go_sem]
        refine seq_go ?_
        try simp only [go_sem]
        replace h := bindE h
        obtain ⟨v5002, hv5002, h⟩ := h
        refine idx_m hv5002 rfl ?_
        try simp only [go_sem]
        refine opt_i (row_m hv5002) ?_
        try simp only [go_sem]
        replace h := bindE h
        obtain ⟨v5005, hv5005, h⟩ := h
        replace h := bindE h
        obtain ⟨v5005_8, hv5005_8, h⟩ := h
        refine call_g ⟨[(3000080080, .sub 1 0 [(1, Int.toNat p0_2, 0)], none)], [(1, 3000080080)], [], [], [], true⟩ (by kernel_rfl) (l_markInt64S_ok _ _ none _ hv5005) (by kernel_rfl) ?_
        try simp only [go_sem]
        refine opt_i (getP_1 (r := List.map i64D v5002) (row_m hv5002) rfl (by simp only [go_sem, slD])) ?_
        try simp only [go_sem]
        refine row_i ((List.map (slD i64D) p0_0).set (Int.toNat p0_2) [.gone]) ((putR_1 (row_m hv5002) (d' := .sl (List.map i64D v5002)) (by simp only [go_sem, slD])).trans (by simp only [go_sem, slD])) ?_
        try simp only [go_sem]
        refine and_i (getC_1 (set_at (row_m hv5002)) rfl rfl) ?_
        try simp only [go_sem]
        refine row_i (List.map (slD i64D) v5005_8) (((putR_1 (set_at (row_m hv5002)) (d' := .gone) rfl).trans (List.set_set ..)).trans (by rw [← set1_some hv5005_8]; simp only [List.map_set, go_sem, slD])) ?_
        try simp only [go_sem]
        refine seq_go ?_
        try simp only [go_sem]
        have hj := posG_to rfl rfl (ih0 v5005_8 v5005.1 (IntKind.i64.wrap (p0_2 + 1)) z1 _ h)
        refine lp_to hj (.one ⟨_, .done _, [(1, 1)], [], ?_⟩)
        clear hj
        try simp only [go_sem]
      · replace h := ifF (c := (decide (p0_2 < ((List.length p0_0 : Nat) : Int)))) hb1 h
        try simp only [go_sem]
        refine seq_go ?_
        try simp only [go_sem]
        replace h := Option.some.inj h
        obtain rfl := h
        refine ret_i (.done _) [(1, 1)] [] ?_
        simp only [go_sem]
theorem l_markInt64SS_l1_ok (n : Nat) : (∀ (p0_0 : List (List Int)) (p0_1 : Int) (p0_2 : Int) (z1 : Option Nat) (r : Int × (List (List Int))), l_markInt64SS_l1 n p0_0 p0_1 p0_2 = some r → posG Try.prog Try.f57 [1, 0, 1, 0] (.int .i64 r.1) [(1, ⟨List.map (slD i64D) r.2, z1, 0⟩)] [] ⟨[(0, .own 1), (1, .int .i64 p0_1), (5, .int .i64 p0_2)], [(1, some ⟨List.map (slD i64D) p0_0, z1, 0⟩)], []⟩) := (l_markInt64SS_l1_all n)

theorem l_markInt64SS_ok (a0 : List (List Int)) (a1 : Int) (z1 : Option Nat) (r : Int × (List (List Int))) (h : l_markInt64SS a0 a1 = some r) : AG Try.prog 57 [.own 1, .int .i64 a1] [(1, ⟨List.map (slD i64D) a0, z1, 0⟩)] [] (.int .i64 r.1) [(1, ⟨List.map (slD i64D) r.2, z1, 0⟩)] [] := by
  unfold l_markInt64SS at h
  refine ag_fn mixed Try.func57 rfl rfl rfl (by kernel_rfl) (by kernel_rfl) ?_
  try simp only [go_sem]
  have hj := posG_to rfl rfl (l_markInt64SS_l1_ok fuel a0 a1 0 z1 _ h)
  refine loop_to hj (.one ⟨_, .done _, [(1, 1)], [], ?_⟩)
  clear hj
  try simp only [go_sem]
theorem l_heldInt64SS_l1_all (n : Nat) : (∀ (a0 : List (List Int)) (p0_0 : Int) (p0_1 : Int) (r : Int), l_heldInt64SS_l1 n a0 p0_0 p0_1 = some r → posF Try.prog Try.f58 [1, 0, 1, 0] (.int .i64 r) ⟨[(0, .ro (List.map (slD i64D) a0)), (1, .int .i64 p0_0), (5, .int .i64 p0_1)], [], []⟩) := by
  induction n with
  | zero => exact ((fun _ _ _ _ h => by rw [l_heldInt64SS_l1] at h; cases h))
  | succ n ih =>
    have ih0 := ih
    · intro a0 p0_0 p0_1 r h
      rw [l_heldInt64SS_l1] at h
      refine posF_of rfl rfl ?_
      try simp only [go_sem]
      refine loop_i ?_
      try simp only [go_sem]
      refine cond_i (fun hb1 => ?_) (fun hb1 => ?_)
      · replace h := ifT (c := (decide (p0_1 < ((List.length a0 : Nat) : Int)))) hb1 h
        try simp only [go_sem]
        refine seq_go ?_
        try simp only [go_sem]
        replace h := bindE h
        obtain ⟨v5002, hv5002, h⟩ := h
        refine idx_m hv5002 rfl ?_
        try simp only [go_sem]
        replace h := bindE h
        obtain ⟨v5005, hv5005, h⟩ := h
        refine call_i (l_heldInt64S_ok _ _ _ hv5005) ?_
        try simp only [go_sem]
        refine cond_i (fun hb2 => ?_) (fun hb2 => ?_)
        · replace h := ifT (c := (decide (v5005 < 0))) hb2 h
          try simp only [go_sem]
          replace h := Option.some.inj h
          obtain rfl := h
          simp only [go_sem]
        · replace h := ifF (c := (decide (v5005 < 0))) hb2 h
          try simp only [go_sem]
          refine seq_go ?_
          try simp only [go_sem]
          have hj := posF_to rfl rfl (ih0 a0 v5005 (IntKind.i64.wrap (p0_1 + 1)) _ h)
          refine lp_to hj (.one ⟨_, .done _, [], [], ?_⟩)
          clear hj
          try simp only [go_sem]
      · replace h := ifF (c := (decide (p0_1 < ((List.length a0 : Nat) : Int)))) hb1 h
        try simp only [go_sem]
        refine seq_go ?_
        try simp only [go_sem]
        replace h := Option.some.inj h
        obtain rfl := h
        simp only [go_sem]
theorem l_heldInt64SS_l1_ok (n : Nat) : (∀ (a0 : List (List Int)) (p0_0 : Int) (p0_1 : Int) (r : Int), l_heldInt64SS_l1 n a0 p0_0 p0_1 = some r → posF Try.prog Try.f58 [1, 0, 1, 0] (.int .i64 r) ⟨[(0, .ro (List.map (slD i64D) a0)), (1, .int .i64 p0_0), (5, .int .i64 p0_1)], [], []⟩) := (l_heldInt64SS_l1_all n)

theorem l_heldInt64SS_ok (a0 : List (List Int)) (a1 : Int) (r : Int) (h : l_heldInt64SS a0 a1 = some r) : AC Try.prog 58 [.ro (List.map (slD i64D) a0), .int .i64 a1] (.int .i64 r) := by
  unfold l_heldInt64SS at h
  refine ac_fn mixed Try.func58 rfl rfl rfl (by kernel_rfl) (by kernel_rfl) ?_
  try simp only [go_sem]
  have hj := posF_to rfl rfl (l_heldInt64SS_l1_ok fuel a0 a1 0 _ h)
  refine loop_to hj (.one ⟨_, .done _, [], [], ?_⟩)
  clear hj
  try simp only [go_sem]
theorem l_FnExactBookUses_j3_ok (v18002 : Int × (List (List Int))) (p2_0 : Bool) (r : Bool) (h : l_FnExactBookUses_j3 v18002 p2_0 = some r) : posF Try.prog Try.f11 [1, 1, 1, 1, 1, 1, 1, 1, 1, 1, 1, 1, 1, 1, 1, 1, 1, 1, 1, 0, 1] (.bool r) ⟨[(7, .own 1000002000), (10, .int .i64 v18002.1), (87, .bool p2_0)], [(1000002000, some ⟨List.map (slD i64D) v18002.2, some 1, 0⟩)], []⟩ := by
  unfold l_FnExactBookUses_j3 at h
  refine posF_of rfl rfl ?_
  try simp only [go_sem]
  refine cond_i (fun hb11 => ?_) (fun hb11 => ?_)
  · replace h := ifT (c := p2_0) hb11 h
    try simp only [go_sem]
    replace h := Option.some.inj h
    obtain rfl := h
    simp only [go_sem]
  · replace h := ifF (c := p2_0) hb11 h
    try simp only [go_sem]
    refine seq_go ?_
    try simp only [go_sem]
    replace h := bindE h
    obtain ⟨v29002, hv29002, h⟩ := h
    refine call_i (l_heldInt64SS_ok _ _ _ hv29002) ?_
    try simp only [go_sem]
    refine cond_i (fun hb12 => ?_) (fun hb12 => ?_)
    · replace h := ifT (c := (decide (v29002 < 0))) hb12 h
      try simp only [go_sem]
      replace h := Option.some.inj h
      obtain rfl := h
      simp only [go_sem]
    · replace h := ifF (c := (decide (v29002 < 0))) hb12 h
      try simp only [go_sem]
      refine seq_go ?_
      try simp only [go_sem]
      refine cond_i (fun hb13 => ?_) (fun hb13 => ?_)
      · replace h := ifT (c := (!decide (v29002 = v18002.1))) hb13 h
        try simp only [go_sem]
        replace h := Option.some.inj h
        obtain rfl := h
        simp only [go_sem]
      · replace h := ifF (c := (!decide (v29002 = v18002.1))) hb13 h
        try simp only [go_sem]
        refine seq_go ?_
        try simp only [go_sem]
        replace h := Option.some.inj h
        obtain rfl := h
        simp only [go_sem]
theorem l_FnExactBookUses_j2_ok (a0 : Book) (v6002 : (List (List Int)) × Int) (v8001 : (List (List Int)) × Int) (p1_0 : Bool) (r : Bool) (h : l_FnExactBookUses_j2 a0 v6002 v8001 p1_0 = some r) : posF Try.prog Try.f11 [1, 1, 1, 1, 1, 1, 1, 1, 1, 1, 1, 0, 1] (.bool r) ⟨[(1, .box 1000001500 0), (4, .own 1000001000), (5, .int .i64 v6002.2), (7, .own 1000001001), (61, .bool p1_0)], [(1000001000, some ⟨List.map (slD i64D) v6002.1, some 1, 0⟩), (1000001001, some ⟨List.map (slD i64D) v8001.1, some 1, 0⟩)], [(1000001500, some [.ro (List.map Core.ds a0.defs)])]⟩ := by
  unfold l_FnExactBookUses_j2 at h
  refine posF_of rfl rfl ?_
  try simp only [go_sem]
  refine cond_i (fun hb7 => ?_) (fun hb7 => ?_)
  · replace h := ifT (c := p1_0) hb7 h
    try simp only [go_sem]
    replace h := Option.some.inj h
    obtain rfl := h
    simp only [go_sem]
  · replace h := ifF (c := p1_0) hb7 h
    try simp only [go_sem]
    refine seq_go ?_
    try simp only [go_sem]
    replace h := bindE h
    obtain ⟨v18002, hv18002, h⟩ := h
    refine call_g ⟨[], [(1, 1000001001)], [], [], [], true⟩ (by kernel_rfl) (l_markInt64SS_ok _ _ (some 1) _ hv18002) (by kernel_rfl) ?_
    try simp only [go_sem]
    replace h := bindE h
    obtain ⟨v20002, hv20002, h⟩ := h
    refine call_i (l_heldInt64SS_ok _ _ _ hv20002) ?_
    try simp only [go_sem]
    refine cond_i (fun hb8 => ?_) (fun hb8 => ?_)
    · replace h := ifT (c := (decide (v20002 < 0))) hb8 h
      try simp only [go_sem]
      replace h := Option.some.inj h
      obtain rfl := h
      simp only [go_sem]
    · replace h := ifF (c := (decide (v20002 < 0))) hb8 h
      try simp only [go_sem]
      refine seq_go ?_
      try simp only [go_sem]
      refine cond_i (fun hb9 => ?_) (fun hb9 => ?_)
      · replace h := ifT (c := (!decide (v20002 = v18002.1))) hb9 h
        try simp only [go_sem]
        replace h := Option.some.inj h
        obtain rfl := h
        simp only [go_sem]
      · replace h := ifF (c := (!decide (v20002 = v18002.1))) hb9 h
        try simp only [go_sem]
        refine seq_go ?_
        try simp only [go_sem]
        replace h := bindE h
        obtain ⟨v25001, hv25001, h⟩ := h
        refine call_i (l_toBook_ok _ _ hv25001) ?_
        try simp only [go_sem]
        replace h := bindE h
        obtain ⟨v25002, hv25002, h⟩ := h
        refine call_i (i_BookUses_ok _ _ hv25002) ?_
        try simp only [go_sem]
        replace h := bindE h
        obtain ⟨v26002, hv26002, h⟩ := h
        refine call_i (l_eqInt64SS_ok _ _ _ hv26002) ?_
        try simp only [go_sem]
        refine cond_i (fun hb10 => ?_) (fun hb10 => ?_)
        · replace h := ifT (c := (!v26002)) hb10 h
          try simp only [go_sem]
          have hj := posF_to rfl rfl (l_FnExactBookUses_j3_ok v18002 true _ h)
          refine seq_to hj (.one ⟨_, .done _, [(1000002000, 1000001001)], [], ?_⟩)
          clear hj
          try simp only [go_sem]
        · replace h := ifF (c := (!v26002)) hb10 h
          try simp only [go_sem]
          have hj := posF_to rfl rfl (l_FnExactBookUses_j3_ok v18002 (!decide (v25002.2 = v6002.2)) _ h)
          refine seq_to hj (.one ⟨_, .done _, [(1000002000, 1000001001)], [], ?_⟩)
          clear hj
          try simp only [go_sem]
theorem l_FnExactBookUses_j1_ok (a0 : Book) (v6002 : (List (List Int)) × Int) (v7001 : Book) (v8001 : (List (List Int)) × Int) (p0_0 : Bool) (r : Bool) (h : l_FnExactBookUses_j1 a0 v6002 v7001 v8001 p0_0 = some r) : posF Try.prog Try.f11 [1, 1, 1, 1, 1, 1, 1, 0, 1] (.bool r) ⟨[(1, .box 1000000500 0), (4, .own 1000000000), (5, .int .i64 v6002.2), (6, .box 1000000501 0), (7, .own 1000000002), (8, .int .i64 v8001.2), (40, .bool p0_0)], [(1000000000, some ⟨List.map (slD i64D) v6002.1, some 1, 0⟩), (1000000001, some ⟨List.map Core.ds v7001.defs, some 4, 0⟩), (1000000002, some ⟨List.map (slD i64D) v8001.1, some 1, 0⟩)], [(1000000500, some [.ro (List.map Core.ds a0.defs)]), (1000000501, some [.own 1000000001])]⟩ := by
  unfold l_FnExactBookUses_j1 at h
  refine posF_of rfl rfl ?_
  try simp only [go_sem]
  refine cond_i (fun hb3 => ?_) (fun hb3 => ?_)
  · replace h := ifT (c := p0_0) hb3 h
    try simp only [go_sem]
    replace h := Option.some.inj h
    obtain rfl := h
    simp only [go_sem]
  · replace h := ifF (c := p0_0) hb3 h
    try simp only [go_sem]
    refine seq_go ?_
    try simp only [go_sem]
    refine draw_i [] .fin (by kernel_rfl) ?_
    try simp only [go_sem]
    replace h := bindE h
    obtain ⟨v11002, hv11002, h⟩ := h
    refine call_i (l_toBook_ok _ _ hv11002) ?_
    try simp only [go_sem]
    replace h := bindE h
    obtain ⟨v11003, hv11003, h⟩ := h
    refine call_i (l_eqBook_ok _ _ _ hv11003) ?_
    try simp only [go_sem]
    refine seq_go ?_
    try simp only [go_sem]
    refine cond_i (fun hb4 => ?_) (fun hb4 => ?_)
    · replace h := ifT (c := (!v11003)) hb4 h
      try simp only [go_sem]
      replace h := Option.some.inj h
      obtain rfl := h
      simp only [go_sem]
    · replace h := ifF (c := (!v11003)) hb4 h
      try simp only [go_sem]
      refine seq_go ?_
      try simp only [go_sem]
      replace h := bindE h
      obtain ⟨v14002, hv14002, h⟩ := h
      refine call_g ⟨[], [(1, 1000000001)], [], [], [], true⟩ (by kernel_rfl) (l_markBook_ok _ _ (some 4) _ hv14002) (by kernel_rfl) ?_
      try simp only [go_sem]
      refine cond_i (fun hb5 => ?_) (fun hb5 => ?_)
      · replace h := ifT (c := (decide (v14002.1 < 0))) hb5 h
        try simp only [go_sem]
        have hj := posF_to rfl rfl (l_FnExactBookUses_j2_ok a0 v6002 v8001 true _ h)
        refine seq_to hj (.one ⟨_, .done _, [(1000001000, 1000000000), (1000001001, 1000000002)], [(1000001500, 1000000500)], ?_⟩)
        clear hj
        try simp only [go_sem]
      · replace h := ifF (c := (decide (v14002.1 < 0))) hb5 h
        try simp only [go_sem]
        replace h := bindE h
        obtain ⟨v15005, hv15005, h⟩ := h
        refine call_i (l_eqInt64SS_ok _ _ _ hv15005) ?_
        try simp only [go_sem]
        refine cond_i (fun hb6 => ?_) (fun hb6 => ?_)
        · replace h := ifT (c := (!v15005)) hb6 h
          try simp only [go_sem]
          have hj := posF_to rfl rfl (l_FnExactBookUses_j2_ok a0 v6002 v8001 true _ h)
          refine seq_to hj (.one ⟨_, .done _, [(1000001000, 1000000000), (1000001001, 1000000002)], [(1000001500, 1000000500)], ?_⟩)
          clear hj
          try simp only [go_sem]
        · replace h := ifF (c := (!v15005)) hb6 h
          try simp only [go_sem]
          have hj := posF_to rfl rfl (l_FnExactBookUses_j2_ok a0 v6002 v8001 (!decide (v8001.2 = v6002.2)) _ h)
          refine seq_to hj (.one ⟨_, .done _, [(1000001000, 1000000000), (1000001001, 1000000002)], [(1000001500, 1000000500)], ?_⟩)
          clear hj
          try simp only [go_sem]
theorem l_FnExactBookUses_ok (a0 : Book) (r : Bool) (h : l_FnExactBookUses a0 = some r) : AC Try.prog 11 [.agg (Book.avs a0)] (.bool r) := by
  unfold l_FnExactBookUses at h
  refine ac_fn mixed Try.func11 rfl rfl rfl (by kernel_rfl) (by kernel_rfl) ?_
  try simp only [go_sem]
  replace h := bindE h
  obtain ⟨v3002, hv3002, h⟩ := h
  refine call_i (l_szBook_ok _ _ _ hv3002) ?_
  try simp only [go_sem]
  refine cond_i (fun hb1 => ?_) (fun hb1 => ?_)
  · replace h := ifT (c := (decide (v3002 < 0))) hb1 h
    try simp only [go_sem]
    replace h := Option.some.inj h
    obtain rfl := h
    simp only [go_sem]
  · replace h := ifF (c := (decide (v3002 < 0))) hb1 h
    try simp only [go_sem]
    refine seq_go ?_
    try simp only [go_sem]
    replace h := bindE h
    obtain ⟨v6001, hv6001, h⟩ := h
    refine call_i (l_toBook_ok _ _ hv6001) ?_
    try simp only [go_sem]
    replace h := bindE h
    obtain ⟨v6002, hv6002, h⟩ := h
    refine call_i (s_BookUses_ok _ _ hv6002) ?_
    try simp only [go_sem]
    replace h := bindE h
    obtain ⟨v7001, hv7001, h⟩ := h
    refine call_i (l_toBook_ok _ _ hv7001) ?_
    try simp only [go_sem]
    replace h := bindE h
    obtain ⟨v8001, hv8001, h⟩ := h
    refine call_i (i_BookUses_ok _ _ hv8001) ?_
    try simp only [go_sem]
    replace h := bindE h
    obtain ⟨v9002, hv9002, h⟩ := h
    refine call_i (l_eqInt64SS_ok _ _ _ hv9002) ?_
    try simp only [go_sem]
    refine cond_i (fun hb2 => ?_) (fun hb2 => ?_)
    · replace h := ifT (c := (!v9002)) hb2 h
      try simp only [go_sem]
      have hj := posF_to rfl rfl (l_FnExactBookUses_j1_ok a0 v6002 v7001 v8001 true _ h)
      refine seq_to hj (.one ⟨_, .done _, [(1000000000, 96032), (1000000001, 112016), (1000000002, 128016)], [(1000000500, 1000), (1000000501, 7002)], ?_⟩)
      clear hj
      try simp only [go_sem]
    · replace h := ifF (c := (!v9002)) hb2 h
      try simp only [go_sem]
      have hj := posF_to rfl rfl (l_FnExactBookUses_j1_ok a0 v6002 v7001 v8001 (!decide (v8001.2 = v6002.2)) _ h)
      refine seq_to hj (.one ⟨_, .done _, [(1000000000, 96032), (1000000001, 112016), (1000000002, 128016)], [(1000000500, 1000), (1000000501, 7002)], ?_⟩)
      clear hj
      try simp only [go_sem]
end Go.Proofs.Ytffokcfdkkikmaa.Ab
