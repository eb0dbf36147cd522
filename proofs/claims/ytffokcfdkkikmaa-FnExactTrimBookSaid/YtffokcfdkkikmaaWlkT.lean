/-
  The functions do what their models say. Printed by wip/ab/gen.py.
-/
import Derived.Test.YtffokcfdkkikmaaModT
import Derived.Test.YtffokcfdkkikmaaTi2
import Derived.Test.YtffokcfdkkikmaaWlkX
namespace Go.Proofs.Ytffokcfdkkikmaa.Ab
set_option linter.unusedVariables false
set_option linter.unusedSimpArgs false
set_option maxRecDepth 20000
set_option maxHeartbeats 4000000
open Go.RowKit

theorem s_l35Renumber_all (n : Nat) : (∀ (a0 : Core) (a1 : List Int) (r : Core), s_l35Renumber n a0 a1 = some r → AC Try.prog 133 [.rop (Core.avs a0) 0, .ro (List.map i64D a1)] (.agg (Core.rv r))) ∧
    (∀ (a0 : Core) (a1 : List Int) (p0_0 : Int) (r : Core), s_l35Renumber_j1 n a0 a1 p0_0 = some r → posF Try.prog Try.f133 [1, 1, 1] (.agg (Core.rv r)) ⟨[(0, .rop [.int .i64 a0.kind, .int .i64 a0.value, .ro (List.map i64D a0.data), .ro (List.map Core.ds a0.kids)] 0), (1, .ro (List.map i64D a1)), (4, .box 1000000500 0), (5, .box 1000000501 0)], [], [(1000000500, some [.int .i64 0, .int .i64 0, .nils, .nils]), (1000000501, some [.int .i64 a0.kind, .int .i64 p0_0, .nils, .nils])]⟩) ∧
    (∀ (a0 : Core) (a1 : List Int) (p0_0 : Int) (p2_0 : List Int) (p2_1 : Int) (r : Core), s_l35Renumber_l3 n a0 a1 p0_0 p2_0 p2_1 = some r → posF Try.prog Try.f133 [1, 1, 1, 0, 1, 0] (.agg (Core.rv r)) ⟨[(0, .rop [.int .i64 a0.kind, .int .i64 a0.value, .ro (List.map i64D a0.data), .ro (List.map Core.ds a0.kids)] 0), (1, .ro (List.map i64D a1)), (4, .box 1000002500 0), (5, .box 1000002501 0), (6, .int .i64 p2_1)], [(1000002000, some ⟨List.map i64D p2_0, some 1, 0⟩)], [(1000002500, some [.int .i64 0, .int .i64 0, .nils, .nils]), (1000002501, some [.int .i64 a0.kind, .int .i64 p0_0, .own 1000002000, .nils])]⟩) ∧
    (∀ (a0 : Core) (a1 : List Int) (p0_0 : Int) (p2_0 : List Int) (p4_0 : List Core) (p4_1 : Int) (r : Core), s_l35Renumber_l5 n a0 a1 p0_0 p2_0 p4_0 p4_1 = some r → posF Try.prog Try.f133 [1, 1, 1, 1, 0, 1, 0] (.agg (Core.rv r)) ⟨[(0, .rop [.int .i64 a0.kind, .int .i64 a0.value, .ro (List.map i64D a0.data), .ro (List.map Core.ds a0.kids)] 0), (1, .ro (List.map i64D a1)), (4, .box 1000004500 0), (5, .box 1000004501 0), (7, .int .i64 p4_1)], [(1000004000, some ⟨List.map i64D p2_0, some 1, 0⟩), (1000004001, some ⟨List.map Core.ds p4_0, some 4, 0⟩)], [(1000004500, some [.int .i64 0, .int .i64 0, .nils, .nils]), (1000004501, some [.int .i64 a0.kind, .int .i64 p0_0, .own 1000004000, .own 1000004001])]⟩) := by
  induction n with
  | zero => exact ⟨(fun _ _ _ h => by rw [s_l35Renumber] at h; cases h), (fun _ _ _ _ h => by rw [s_l35Renumber_j1] at h; cases h), (fun _ _ _ _ _ _ h => by rw [s_l35Renumber_l3] at h; cases h), (fun _ _ _ _ _ _ _ h => by rw [s_l35Renumber_l5] at h; cases h)⟩
  | succ n ih =>
    obtain ⟨ih0, ih1, ih2, ih3⟩ := ih
    refine ⟨?_, ?_, ?_, ?_⟩
    · intro a0 a1 r h
      rw [s_l35Renumber] at h
      refine ac_fn mixed Try.func133 rfl rfl rfl (by kernel_rfl) (by kernel_rfl) ?_
      try simp only [go_sem]
      refine draw_i [false, false, false, false, false, false, false, false, false, false, true] (Tr.sq [10] .fin) (by kernel_rfl) ?_
      try simp only [go_sem]
      refine seq_go ?_
      try simp only [go_sem]
      refine cond_i (fun hb1 => ?_) (fun hb1 => ?_)
      · replace h := ifT (c := (decide (a0.kind = 11))) hb1 h
        try simp only [go_sem]
        replace h := bindE h
        obtain ⟨v4005, hv4005, h⟩ := h
        refine idx_m hv4005 rfl ?_
        try simp only [go_sem]
        have hj := posF_to rfl rfl (ih1 a0 a1 v4005 _ h)
        refine seq_to hj (.one ⟨_, .done _, [], [(1000000500, 1000), (1000000501, 2009)], ?_⟩)
        clear hj
        try simp only [go_sem]
      · replace h := ifF (c := (decide (a0.kind = 11))) hb1 h
        try simp only [go_sem]
        have hj := posF_to rfl rfl (ih1 a0 a1 a0.value _ h)
        refine seq_to hj (.one ⟨_, .done _, [], [(1000000500, 1000), (1000000501, 2009)], ?_⟩)
        clear hj
        try simp only [go_sem]
    · intro a0 a1 p0_0 r h
      rw [s_l35Renumber_j1] at h
      refine posF_of rfl rfl ?_
      try simp only [go_sem]
      have hj := posF_to rfl rfl (ih2 a0 a1 p0_0 [] 0 _ h)
      refine loop_to hj (.one ⟨_, .cell 1000000501 2 2000000000 (some 1) _ (by simp only [go_sem]; rfl) (by rfl) (by simp only [go_sem]) (.done _), [(1000002000, 2000000000)], [(1000002500, 1000000500), (1000002501, 1000000501)], ?_⟩)
      clear hj
      simp only [go_sem]
      all_goals try rfl
    · intro a0 a1 p0_0 p2_0 p2_1 r h
      rw [s_l35Renumber_l3] at h
      refine posF_of rfl rfl ?_
      try simp only [go_sem]
      refine loop_i ?_
      try simp only [go_sem]
      refine cond_i (fun hb2 => ?_) (fun hb2 => ?_)
      · replace h := ifT (c := (decide (p2_1 < ((List.length a0.data : Nat) : Int)))) hb2 h
        try simp only [go_sem]
        refine seq_go ?_
        try simp only [go_sem]
        refine draw_i [false, false, false, false, false, false, false, false, false, false, false, false, false, true, true, true] (Tr.sq [13, 14, 15] .fin) (by kernel_rfl) ?_
        try simp only [go_sem]
        replace h := bindE h
        obtain ⟨v8008, hv8008, h⟩ := h
        refine idx_m hv8008 rfl ?_
        try simp only [go_sem]
        replace h := bindE h
        obtain ⟨v8010, hv8010, h⟩ := h
        refine idx_m hv8010 rfl ?_
        try simp only [go_sem]
        replace h := bindE h
        obtain ⟨v8013, hv8013, h⟩ := h
        have hq_ := app_some hv8013
        obtain ⟨hv8013a, hv8013b⟩ := hq_
        refine and_i (by refine ⟨?_, ?_⟩ <;> (try simp only [List.length_map, List.length_append, List.length_cons, List.length_nil] at *) <;> (try unfold maxLen) <;> omega) ?_
        try simp only [go_sem]
        refine row_i (List.map i64D v8013) (by rw [← hv8013b]; simp only [List.map_append, List.map_cons, List.map_nil, List.nil_append, List.append_nil, go_sem, slD]) ?_
        try simp only [go_sem]
        refine seq_go ?_
        try simp only [go_sem]
        have hj := posF_to rfl rfl (ih2 a0 a1 p0_0 v8013 (IntKind.i64.wrap (p2_1 + 1)) _ h)
        refine lp_to hj (.one ⟨_, .done _, [(1000002000, 128208)], [(1000002500, 1000002500), (1000002501, 1000002501)], ?_⟩)
        clear hj
        try simp only [go_sem]
      · replace h := ifF (c := (decide (p2_1 < ((List.length a0.data : Nat) : Int)))) hb2 h
        try simp only [go_sem]
        refine seq_go ?_
        try simp only [go_sem]
        have hj := posF_to rfl rfl (ih3 a0 a1 p0_0 p2_0 [] 0 _ h)
        refine loop_to hj (.one ⟨_, .cell 1000002501 3 2000000000 (some 4) _ (by simp only [go_sem]; rfl) (by rfl) (by simp only [go_sem]) (.done _), [(1000004000, 1000002000), (1000004001, 2000000000)], [(1000004500, 1000002500), (1000004501, 1000002501)], ?_⟩)
        clear hj
        simp only [go_sem]
        all_goals try rfl
    · intro a0 a1 p0_0 p2_0 p4_0 p4_1 r h
      rw [s_l35Renumber_l5] at h
      refine posF_of rfl rfl ?_
      try simp only [go_sem]
      refine loop_i ?_
      try simp only [go_sem]
      refine cond_i (fun hb3 => ?_) (fun hb3 => ?_)
      · replace h := ifT (c := (decide (p4_1 < ((List.length a0.kids : Nat) : Int)))) hb3 h
        try simp only [go_sem]
        refine seq_go ?_
        try simp only [go_sem]
        refine draw_i [false, false, false, false, false, false, false, false, false, false, false, true, true, true] (Tr.sq [11, 12, 13] .fin) (by kernel_rfl) ?_
        try simp only [go_sem]
        replace h := bindE h
        obtain ⟨v12007, hv12007, h⟩ := h
        refine idx_m hv12007 (Core.ds_len _) ?_
        try simp only [go_sem]
        replace h := bindE h
        obtain ⟨v12009, hv12009, h⟩ := h
        refine call_i (ih0 _ _ _ hv12009) ?_
        try simp only [go_sem]
        replace h := bindE h
        obtain ⟨v12011, hv12011, h⟩ := h
        have hq_ := app_some hv12011
        obtain ⟨hv12011a, hv12011b⟩ := hq_
        refine and_i (by refine ⟨?_, ?_⟩ <;> (try simp only [List.length_map, List.length_append, List.length_cons, List.length_nil] at *) <;> (try unfold maxLen) <;> omega) ?_
        try simp only [go_sem]
        refine row_i (List.map Core.ds v12011) (by rw [← hv12011b]; simp only [List.map_append, List.map_cons, List.map_nil, List.nil_append, List.append_nil, go_sem, Core.ds_eq]) ?_
        try simp only [go_sem]
        refine seq_go ?_
        try simp only [go_sem]
        have hj := posF_to rfl rfl (ih3 a0 a1 p0_0 p2_0 v12011 (IntKind.i64.wrap (p4_1 + 1)) _ h)
        refine lp_to hj (.one ⟨_, .done _, [(1000004000, 1000004000), (1000004001, 192176)], [(1000004500, 1000004500), (1000004501, 1000004501)], ?_⟩)
        clear hj
        try simp only [go_sem]
      · replace h := ifF (c := (decide (p4_1 < ((List.length a0.kids : Nat) : Int)))) hb3 h
        try simp only [go_sem]
        refine seq_go ?_
        try simp only [go_sem]
        replace h := Option.some.inj h
        obtain rfl := h
        simp only [go_sem]
theorem s_l35Renumber_ok (n : Nat) : (∀ (a0 : Core) (a1 : List Int) (r : Core), s_l35Renumber n a0 a1 = some r → AC Try.prog 133 [.rop (Core.avs a0) 0, .ro (List.map i64D a1)] (.agg (Core.rv r))) := (s_l35Renumber_all n).1
theorem s_l35Renumber_j1_ok (n : Nat) : (∀ (a0 : Core) (a1 : List Int) (p0_0 : Int) (r : Core), s_l35Renumber_j1 n a0 a1 p0_0 = some r → posF Try.prog Try.f133 [1, 1, 1] (.agg (Core.rv r)) ⟨[(0, .rop [.int .i64 a0.kind, .int .i64 a0.value, .ro (List.map i64D a0.data), .ro (List.map Core.ds a0.kids)] 0), (1, .ro (List.map i64D a1)), (4, .box 1000000500 0), (5, .box 1000000501 0)], [], [(1000000500, some [.int .i64 0, .int .i64 0, .nils, .nils]), (1000000501, some [.int .i64 a0.kind, .int .i64 p0_0, .nils, .nils])]⟩) := (s_l35Renumber_all n).2.1
theorem s_l35Renumber_l3_ok (n : Nat) : (∀ (a0 : Core) (a1 : List Int) (p0_0 : Int) (p2_0 : List Int) (p2_1 : Int) (r : Core), s_l35Renumber_l3 n a0 a1 p0_0 p2_0 p2_1 = some r → posF Try.prog Try.f133 [1, 1, 1, 0, 1, 0] (.agg (Core.rv r)) ⟨[(0, .rop [.int .i64 a0.kind, .int .i64 a0.value, .ro (List.map i64D a0.data), .ro (List.map Core.ds a0.kids)] 0), (1, .ro (List.map i64D a1)), (4, .box 1000002500 0), (5, .box 1000002501 0), (6, .int .i64 p2_1)], [(1000002000, some ⟨List.map i64D p2_0, some 1, 0⟩)], [(1000002500, some [.int .i64 0, .int .i64 0, .nils, .nils]), (1000002501, some [.int .i64 a0.kind, .int .i64 p0_0, .own 1000002000, .nils])]⟩) := (s_l35Renumber_all n).2.2.1
theorem s_l35Renumber_l5_ok (n : Nat) : (∀ (a0 : Core) (a1 : List Int) (p0_0 : Int) (p2_0 : List Int) (p4_0 : List Core) (p4_1 : Int) (r : Core), s_l35Renumber_l5 n a0 a1 p0_0 p2_0 p4_0 p4_1 = some r → posF Try.prog Try.f133 [1, 1, 1, 1, 0, 1, 0] (.agg (Core.rv r)) ⟨[(0, .rop [.int .i64 a0.kind, .int .i64 a0.value, .ro (List.map i64D a0.data), .ro (List.map Core.ds a0.kids)] 0), (1, .ro (List.map i64D a1)), (4, .box 1000004500 0), (5, .box 1000004501 0), (7, .int .i64 p4_1)], [(1000004000, some ⟨List.map i64D p2_0, some 1, 0⟩), (1000004001, some ⟨List.map Core.ds p4_0, some 4, 0⟩)], [(1000004500, some [.int .i64 0, .int .i64 0, .nils, .nils]), (1000004501, some [.int .i64 a0.kind, .int .i64 p0_0, .own 1000004000, .own 1000004001])]⟩) := (s_l35Renumber_all n).2.2.2

theorem s_TrimBook_l4_all (n : Nat) : (∀ (a0 : Book) (a1 : Int) (p1_0 : List Int) (v5001 : (List Int)) (p3_0 : List Core) (p3_1 : Int) (r : Book × Int × Int), s_TrimBook_l4 n a0 a1 p1_0 v5001 p3_0 p3_1 = some r → posF Try.prog Try.f66 [1, 1, 1, 1, 1, 1, 0, 1, 0] (.tup [.agg (Book.rv r.1), .int .i64 r.2.1, .int .i64 r.2.2]) ⟨[(1, .int .i64 a1), (2, .box 1000003500 0), (4, .box 1000003501 0), (8, .own 1000003000), (9, .own 1000003001), (11, .box 1000003502 0), (12, .int .i64 p3_1)], [(1000003000, some ⟨List.map i64D v5001, some 1, 0⟩), (1000003001, some ⟨List.map i64D p1_0, some 1, 0⟩), (1000003002, some ⟨List.map Core.ds p3_0, some 4, 0⟩)], [(1000003500, some [.ro (List.map Core.ds a0.defs)]), (1000003501, some [.nils]), (1000003502, some [.own 1000003002])]⟩) := by
  induction n with
  | zero => exact ((fun _ _ _ _ _ _ _ h => by rw [s_TrimBook_l4] at h; cases h))
  | succ n ih =>
    have ih0 := ih
    · intro a0 a1 p1_0 v5001 p3_0 p3_1 r h
      rw [s_TrimBook_l4] at h
      refine posF_of rfl rfl ?_
      try simp only [go_sem]
      refine loop_i ?_
      try simp only [go_sem]
      refine cond_i (fun hb3 => ?_) (fun hb3 => ?_)
      · replace h := ifT (c := (decide (p3_1 < ((List.length v5001 : Nat) : Int)))) hb3 h
        try simp only [go_sem]
        refine seq_go ?_
        try simp only [go_sem]
        refine draw_i [false, false, false, false, false, false, false, false, false, false, false, false, true, true, true] (Tr.sq [12, 13, 14] .fin) (by kernel_rfl) ?_
        try simp only [go_sem]
        replace h := bindE h
        obtain ⟨v15006, hv15006, h⟩ := h
        refine idx_m hv15006 rfl ?_
        try simp only [go_sem]
        refine opt_i (row_m hv15006) ?_
        try simp only [go_sem]
        replace h := bindE h
        obtain ⟨v15008, hv15008, h⟩ := h
        refine idx_m hv15008 (Core.ds_len _) ?_
        try simp only [go_sem]
        replace h := bindE h
        obtain ⟨v15010, hv15010, h⟩ := h
        refine call_i (s_l35Renumber_ok fuel _ _ _ hv15010) ?_
        try simp only [go_sem]
        replace h := bindE h
        obtain ⟨v15012, hv15012, h⟩ := h
        have hq_ := app_some hv15012
        obtain ⟨hv15012a, hv15012b⟩ := hq_
        refine and_i (by refine ⟨?_, ?_⟩ <;> (try simp only [List.length_map, List.length_append, List.length_cons, List.length_nil] at *) <;> (try unfold maxLen) <;> omega) ?_
        try simp only [go_sem]
        refine row_i (List.map Core.ds v15012) (by rw [← hv15012b]; simp only [List.map_append, List.map_cons, List.map_nil, List.nil_append, List.append_nil, go_sem, Core.ds_eq]) ?_
        try simp only [go_sem]
        refine seq_go ?_
        try simp only [go_sem]
        have hj := posF_to rfl rfl (ih0 a0 a1 p1_0 v5001 v15012 (IntKind.i64.wrap (p3_1 + 1)) _ h)
        refine lp_to hj (.one ⟨_, .done _, [(1000003000, 1000003000), (1000003001, 1000003001), (1000003002, 240192)], [(1000003500, 1000003500), (1000003501, 1000003501), (1000003502, 1000003502)], ?_⟩)
        clear hj
        try simp only [go_sem]
      · replace h := ifF (c := (decide (p3_1 < ((List.length v5001 : Nat) : Int)))) hb3 h
        try simp only [go_sem]
        refine seq_go ?_
        try simp only [go_sem]
        refine draw_i [true, false, false, false, true, true, true, true] (.br 0 (.br 4 (Tr.sq [5, 6, 7] .fin) (.br 5 (Tr.sq [4, 6, 7] .fin) .stop)) (.br 4 (Tr.sq [0, 5, 6, 7] .fin) .stop)) (by kernel_rfl) ?_
        try simp only [go_sem]
        replace h := bindE h
        obtain ⟨v16003, hv16003, h⟩ := h
        refine idx_m hv16003 rfl ?_
        try simp only [go_sem]
        refine alt_i ?_ ?_
        · try simp only [go_sem]
          refine alt_i ?_ ?_
          · try simp only [go_sem]
            refine opt_i (row_m hv16003) ?_
            try simp only [go_sem]
            refine seq_go ?_
            try simp only [go_sem]
            replace h := Option.some.inj h
            obtain rfl := h
            simp only [go_sem]
          · try simp only [go_sem]
            refine opt_i (row_m hv16003) ?_
            try simp only [go_sem]
            refine seq_go ?_
            try simp only [go_sem]
            replace h := Option.some.inj h
            obtain rfl := h
            simp only [go_sem]
        · try simp only [go_sem]
          refine opt_i (row_m hv16003) ?_
          try simp only [go_sem]
          refine seq_go ?_
          try simp only [go_sem]
          replace h := Option.some.inj h
          obtain rfl := h
          simp only [go_sem]
theorem s_TrimBook_l4_ok (n : Nat) : (∀ (a0 : Book) (a1 : Int) (p1_0 : List Int) (v5001 : (List Int)) (p3_0 : List Core) (p3_1 : Int) (r : Book × Int × Int), s_TrimBook_l4 n a0 a1 p1_0 v5001 p3_0 p3_1 = some r → posF Try.prog Try.f66 [1, 1, 1, 1, 1, 1, 0, 1, 0] (.tup [.agg (Book.rv r.1), .int .i64 r.2.1, .int .i64 r.2.2]) ⟨[(1, .int .i64 a1), (2, .box 1000003500 0), (4, .box 1000003501 0), (8, .own 1000003000), (9, .own 1000003001), (11, .box 1000003502 0), (12, .int .i64 p3_1)], [(1000003000, some ⟨List.map i64D v5001, some 1, 0⟩), (1000003001, some ⟨List.map i64D p1_0, some 1, 0⟩), (1000003002, some ⟨List.map Core.ds p3_0, some 4, 0⟩)], [(1000003500, some [.ro (List.map Core.ds a0.defs)]), (1000003501, some [.nils]), (1000003502, some [.own 1000003002])]⟩) := (s_TrimBook_l4_all n)

theorem s_TrimBook_l2_all (n : Nat) : (∀ (a0 : Book) (a1 : Int) (v5001 : (List Int)) (p1_0 : List Int) (p1_1 : Int) (r : Book × Int × Int), s_TrimBook_l2 n a0 a1 v5001 p1_0 p1_1 = some r → posF Try.prog Try.f66 [1, 1, 1, 1, 0, 1, 0] (.tup [.agg (Book.rv r.1), .int .i64 r.2.1, .int .i64 r.2.2]) ⟨[(1, .int .i64 a1), (2, .box 1000001500 0), (4, .box 1000001501 0), (8, .own 1000001000), (9, .own 1000001001), (10, .int .i64 p1_1)], [(1000001000, some ⟨List.map i64D v5001, some 1, 0⟩), (1000001001, some ⟨List.map i64D p1_0, some 1, 0⟩)], [(1000001500, some [.ro (List.map Core.ds a0.defs)]), (1000001501, some [.nils])]⟩) := by
  induction n with
  | zero => exact ((fun _ _ _ _ _ _ h => by rw [s_TrimBook_l2] at h; cases h))
  | succ n ih =>
    have ih0 := ih
    · intro a0 a1 v5001 p1_0 p1_1 r h
      rw [s_TrimBook_l2] at h
      refine posF_of rfl rfl ?_
      try simp only [go_sem]
      refine loop_i ?_
      try simp only [go_sem]
      refine cond_i (fun hb2 => ?_) (fun hb2 => ?_)
      · replace h := ifT (c := (decide (p1_1 < ((List.length v5001 : Nat) : Int)))) hb2 h
        try simp only [go_sem]
        refine seq_go ?_
        try simp only [go_sem]
        replace h := bindE h
        obtain ⟨v10003, hv10003, h⟩ := h
        refine idx_m hv10003 rfl ?_
        try simp only [go_sem]
        refine opt_i (row_m hv10003) ?_
        try simp only [go_sem]
        replace h := bindE h
        obtain ⟨v10006, hv10006, h⟩ := h
        refine idx_m hv10006 rfl ?_
        try simp only [go_sem]
        replace h := bindE h
        obtain ⟨v10007_12, hv10007_12, h⟩ := h
        refine opt_i (row_m hv10006) ?_
        try simp only [go_sem]
        refine row_i (List.map i64D v10007_12) (by rw [← set1_some hv10007_12]; simp only [List.map_set, go_sem, slD]) ?_
        try simp only [go_sem]
        refine seq_go ?_
        try simp only [go_sem]
        have hj := posF_to rfl rfl (ih0 a0 a1 v5001 v10007_12 (IntKind.i64.wrap (p1_1 + 1)) _ h)
        refine lp_to hj (.one ⟨_, .done _, [(1000001000, 1000001000), (1000001001, 1000001001)], [(1000001500, 1000001500), (1000001501, 1000001501)], ?_⟩)
        clear hj
        try simp only [go_sem]
      · replace h := ifF (c := (decide (p1_1 < ((List.length v5001 : Nat) : Int)))) hb2 h
        try simp only [go_sem]
        refine seq_go ?_
        try simp only [go_sem]
        have hj := posF_to rfl rfl (s_TrimBook_l4_ok fuel a0 a1 p1_0 v5001 [] 0 _ h)
        refine loop_to hj (.one ⟨_, .cell 11001 0 2000000000 (some 4) _ (by simp only [go_sem]; rfl) (by rfl) (by simp only [go_sem]) (.done _), [(1000003000, 1000001000), (1000003001, 1000001001), (1000003002, 2000000000)], [(1000003500, 1000001500), (1000003501, 1000001501), (1000003502, 11001)], ?_⟩)
        clear hj
        simp only [go_sem]
        all_goals try rfl
theorem s_TrimBook_l2_ok (n : Nat) : (∀ (a0 : Book) (a1 : Int) (v5001 : (List Int)) (p1_0 : List Int) (p1_1 : Int) (r : Book × Int × Int), s_TrimBook_l2 n a0 a1 v5001 p1_0 p1_1 = some r → posF Try.prog Try.f66 [1, 1, 1, 1, 0, 1, 0] (.tup [.agg (Book.rv r.1), .int .i64 r.2.1, .int .i64 r.2.2]) ⟨[(1, .int .i64 a1), (2, .box 1000001500 0), (4, .box 1000001501 0), (8, .own 1000001000), (9, .own 1000001001), (10, .int .i64 p1_1)], [(1000001000, some ⟨List.map i64D v5001, some 1, 0⟩), (1000001001, some ⟨List.map i64D p1_0, some 1, 0⟩)], [(1000001500, some [.ro (List.map Core.ds a0.defs)]), (1000001501, some [.nils])]⟩) := (s_TrimBook_l2_all n)

theorem s_TrimBook_ok (a0 : Book) (a1 : Int) (r : Book × Int × Int) (h : s_TrimBook a0 a1 = some r) : AC Try.prog 66 [.agg (Book.avs a0), .int .i64 a1] (.tup [.agg (Book.rv r.1), .int .i64 r.2.1, .int .i64 r.2.2]) := by
  unfold s_TrimBook at h
  refine ac_fn mixed Try.func66 rfl rfl rfl (by kernel_rfl) (by kernel_rfl) ?_
  try simp only [go_sem]
  replace h := bindE h
  obtain ⟨v2001, hv2001, h⟩ := h
  refine call_i (s_l35Code_ok _ _ _ hv2001) ?_
  try simp only [go_sem]
  refine cond_i (fun hb1 => ?_) (fun hb1 => ?_)
  · replace h := ifT (c := (!decide (v2001 = 0))) hb1 h
    try simp only [go_sem]
    replace h := Option.some.inj h
    obtain rfl := h
    simp only [go_sem]
  · replace h := ifF (c := (!decide (v2001 = 0))) hb1 h
    try simp only [go_sem]
    refine seq_go ?_
    try simp only [go_sem]
    replace h := bindE h
    obtain ⟨v5001, hv5001, h⟩ := h
    refine call_i (s_l35Live_ok _ _ _ hv5001) ?_
    try simp only [go_sem]
    replace h := bindE h
    obtain ⟨v6003, hv6003, h⟩ := h
    have hq_ := rep_some hv6003
    obtain ⟨hv6003a, hv6003b, hv6003c⟩ := hq_
    refine and_i (by refine ⟨?_, ?_, ?_⟩ <;> omega) ?_
    try simp only [go_sem]
    refine row_i (List.map i64D v6003) (by rw [← hv6003c]; simp only [List.map_replicate, go_sem, slD]) ?_
    try simp only [go_sem]
    have hj := posF_to rfl rfl (s_TrimBook_l2_ok fuel a0 a1 v5001 v6003 0 _ h)
    refine loop_to hj (.one ⟨_, .done _, [(1000001000, 80016), (1000001001, 96048)], [(1000001500, 1000), (1000001501, 1001)], ?_⟩)
    clear hj
    try simp only [go_sem]
theorem i_renumberDefs_all (n : Nat) : (∀ (a0 : Core) (a1 : List Int) (r : Core), i_renumberDefs n a0 a1 = some r → AC Try.prog 134 [.agg (Core.avs a0), .ro (List.map i64D a1)] (.agg (Core.rv r))) ∧
    (∀ (a0 : Core) (a1 : List Int) (p0_0 : Int) (r : Core), i_renumberDefs_j1 n a0 a1 p0_0 = some r → posF Try.prog Try.f134 [1, 1, 1] (.agg (Core.rv r)) ⟨[(1, .ro (List.map i64D a1)), (2, .box 1000000500 0), (4, .box 1000000501 0), (5, .box 1000000502 0)], [], [(1000000500, some [.int .i64 a0.kind, .int .i64 a0.value, .ro (List.map i64D a0.data), .ro (List.map Core.ds a0.kids)]), (1000000501, some [.int .i64 0, .int .i64 0, .nils, .nils]), (1000000502, some [.int .i64 a0.kind, .int .i64 p0_0, .nils, .nils])]⟩) ∧
    (∀ (a0 : Core) (a1 : List Int) (p0_0 : Int) (p2_0 : List Int) (p2_1 : Int) (r : Core), i_renumberDefs_l3 n a0 a1 p0_0 p2_0 p2_1 = some r → posF Try.prog Try.f134 [1, 1, 1, 0, 1, 0] (.agg (Core.rv r)) ⟨[(1, .ro (List.map i64D a1)), (2, .box 1000002500 0), (4, .box 1000002501 0), (5, .box 1000002502 0), (24, .ro (List.map i64D a0.data)), (25, .int .i64 ((List.length a0.data : Nat) : Int)), (26, .int .i64 p2_1)], [(1000002000, some ⟨List.map i64D p2_0, some 1, 0⟩)], [(1000002500, some [.int .i64 a0.kind, .int .i64 a0.value, .ro (List.map i64D a0.data), .ro (List.map Core.ds a0.kids)]), (1000002501, some [.int .i64 0, .int .i64 0, .nils, .nils]), (1000002502, some [.int .i64 a0.kind, .int .i64 p0_0, .own 1000002000, .nils])]⟩) ∧
    (∀ (a0 : Core) (a1 : List Int) (p0_0 : Int) (p2_0 : List Int) (p4_0 : List Core) (p4_1 : Int) (r : Core), i_renumberDefs_l5 n a0 a1 p0_0 p2_0 p4_0 p4_1 = some r → posF Try.prog Try.f134 [1, 1, 1, 1, 0, 1, 0] (.agg (Core.rv r)) ⟨[(1, .ro (List.map i64D a1)), (4, .box 1000004500 0), (5, .box 1000004501 0), (40, .ro (List.map Core.ds a0.kids)), (41, .int .i64 ((List.length a0.kids : Nat) : Int)), (42, .int .i64 p4_1)], [(1000004000, some ⟨List.map i64D p2_0, some 1, 0⟩), (1000004001, some ⟨List.map Core.ds p4_0, some 4, 0⟩)], [(1000004500, some [.int .i64 0, .int .i64 0, .nils, .nils]), (1000004501, some [.int .i64 a0.kind, .int .i64 p0_0, .own 1000004000, .own 1000004001])]⟩) := by
  induction n with
  | zero => exact ⟨(fun _ _ _ h => by rw [i_renumberDefs] at h; cases h), (fun _ _ _ _ h => by rw [i_renumberDefs_j1] at h; cases h), (fun _ _ _ _ _ _ h => by rw [i_renumberDefs_l3] at h; cases h), (fun _ _ _ _ _ _ _ h => by rw [i_renumberDefs_l5] at h; cases h)⟩
  | succ n ih =>
    obtain ⟨ih0, ih1, ih2, ih3⟩ := ih
    refine ⟨?_, ?_, ?_, ?_⟩
    · intro a0 a1 r h
      rw [i_renumberDefs] at h
      refine ac_fn mixed Try.func134 rfl rfl rfl (by kernel_rfl) (by kernel_rfl) ?_
      try simp only [go_sem]
      refine cond_i (fun hb1 => ?_) (fun hb1 => ?_)
      · replace h := ifT (c := (decide (a0.kind = 11))) hb1 h
        try simp only [go_sem]
        replace h := bindE h
        obtain ⟨v4003, hv4003, h⟩ := h
        refine call_i (g_Index_sint64_ok _ _ _ hv4003) ?_
        try simp only [go_sem]
        have hj := posF_to rfl rfl (ih1 a0 a1 v4003 _ h)
        refine seq_to hj (.one ⟨_, .done _, [], [(1000000500, 1000), (1000000501, 1001), (1000000502, 2005)], ?_⟩)
        clear hj
        try simp only [go_sem]
      · replace h := ifF (c := (decide (a0.kind = 11))) hb1 h
        try simp only [go_sem]
        have hj := posF_to rfl rfl (ih1 a0 a1 a0.value _ h)
        refine seq_to hj (.one ⟨_, .done _, [], [(1000000500, 1000), (1000000501, 1001), (1000000502, 2005)], ?_⟩)
        clear hj
        try simp only [go_sem]
    · intro a0 a1 p0_0 r h
      rw [i_renumberDefs_j1] at h
      refine posF_of rfl rfl ?_
      try simp only [go_sem]
      have hj := posF_to rfl rfl (ih2 a0 a1 p0_0 [] 0 _ h)
      refine loop_to hj (.one ⟨_, .cell 1000000502 2 2000000000 (some 1) _ (by simp only [go_sem]; rfl) (by rfl) (by simp only [go_sem]) (.done _), [(1000002000, 2000000000)], [(1000002500, 1000000500), (1000002501, 1000000501), (1000002502, 1000000502)], ?_⟩)
      clear hj
      simp only [go_sem]
      all_goals try rfl
    · intro a0 a1 p0_0 p2_0 p2_1 r h
      rw [i_renumberDefs_l3] at h
      refine posF_of rfl rfl ?_
      try simp only [go_sem]
      refine loop_i ?_
      try simp only [go_sem]
      refine cond_i (fun hb2 => ?_) (fun hb2 => ?_)
      · replace h := ifT (c := (decide (p2_1 < ((List.length a0.data : Nat) : Int)))) hb2 h
        try simp only [go_sem]
        refine seq_go ?_
        try simp only [go_sem]
        replace h := bindE h
        obtain ⟨v7000, hv7000, h⟩ := h
        refine idx_m hv7000 rfl ?_
        try simp only [go_sem]
        refine draw_i [false, false, false, false, false, false, true, true, true] (Tr.sq [6, 7, 8] .fin) (by kernel_rfl) ?_
        try simp only [go_sem]
        replace h := bindE h
        obtain ⟨v8004, hv8004, h⟩ := h
        refine call_i (g_Index_sint64_ok _ _ _ hv8004) ?_
        try simp only [go_sem]
        replace h := bindE h
        obtain ⟨v8006, hv8006, h⟩ := h
        have hq_ := app_some hv8006
        obtain ⟨hv8006a, hv8006b⟩ := hq_
        refine and_i (by refine ⟨?_, ?_⟩ <;> (try simp only [List.length_map, List.length_append, List.length_cons, List.length_nil] at *) <;> (try unfold maxLen) <;> omega) ?_
        try simp only [go_sem]
        refine row_i (List.map i64D v8006) (by rw [← hv8006b]; simp only [List.map_append, List.map_cons, List.map_nil, List.nil_append, List.append_nil, go_sem, slD]) ?_
        try simp only [go_sem]
        refine seq_go ?_
        try simp only [go_sem]
        have hj := posF_to rfl rfl (ih2 a0 a1 p0_0 v8006 (IntKind.i64.wrap (p2_1 + 1)) _ h)
        refine lp_to hj (.one ⟨_, .done _, [(1000002000, 128096)], [(1000002500, 1000002500), (1000002501, 1000002501), (1000002502, 1000002502)], ?_⟩)
        clear hj
        try simp only [go_sem]
      · replace h := ifF (c := (decide (p2_1 < ((List.length a0.data : Nat) : Int)))) hb2 h
        try simp only [go_sem]
        refine seq_go ?_
        try simp only [go_sem]
        have hj := posF_to rfl rfl (ih3 a0 a1 p0_0 p2_0 [] 0 _ h)
        refine loop_to hj (.one ⟨_, .cell 1000002502 3 2000000000 (some 4) _ (by simp only [go_sem]; rfl) (by rfl) (by simp only [go_sem]) (.done _), [(1000004000, 1000002000), (1000004001, 2000000000)], [(1000004500, 1000002501), (1000004501, 1000002502)], ?_⟩)
        clear hj
        simp only [go_sem]
        all_goals try rfl
    · intro a0 a1 p0_0 p2_0 p4_0 p4_1 r h
      rw [i_renumberDefs_l5] at h
      refine posF_of rfl rfl ?_
      try simp only [go_sem]
      refine loop_i ?_
      try simp only [go_sem]
      refine cond_i (fun hb3 => ?_) (fun hb3 => ?_)
      · replace h := ifT (c := (decide (p4_1 < ((List.length a0.kids : Nat) : Int)))) hb3 h
        try simp only [go_sem]
        refine seq_go ?_
        try simp only [go_sem]
        replace h := bindE h
        obtain ⟨v12000, hv12000, h⟩ := h
        refine idx_m hv12000 (Core.ds_len _) ?_
        try simp only [go_sem]
        refine draw_i [false, false, false, false, false, false, true, true, true] (Tr.sq [6, 7, 8] .fin) (by kernel_rfl) ?_
        try simp only [go_sem]
        replace h := bindE h
        obtain ⟨v13004, hv13004, h⟩ := h
        refine call_i (ih0 _ _ _ hv13004) ?_
        try simp only [go_sem]
        replace h := bindE h
        obtain ⟨v13006, hv13006, h⟩ := h
        have hq_ := app_some hv13006
        obtain ⟨hv13006a, hv13006b⟩ := hq_
        refine and_i (by refine ⟨?_, ?_⟩ <;> (try simp only [List.length_map, List.length_append, List.length_cons, List.length_nil] at *) <;> (try unfold maxLen) <;> omega) ?_
        try simp only [go_sem]
        refine row_i (List.map Core.ds v13006) (by rw [← hv13006b]; simp only [List.map_append, List.map_cons, List.map_nil, List.nil_append, List.append_nil, go_sem, Core.ds_eq]) ?_
        try simp only [go_sem]
        refine seq_go ?_
        try simp only [go_sem]
        have hj := posF_to rfl rfl (ih3 a0 a1 p0_0 p2_0 v13006 (IntKind.i64.wrap (p4_1 + 1)) _ h)
        refine lp_to hj (.one ⟨_, .done _, [(1000004000, 1000004000), (1000004001, 208096)], [(1000004500, 1000004500), (1000004501, 1000004501)], ?_⟩)
        clear hj
        try simp only [go_sem]
      · replace h := ifF (c := (decide (p4_1 < ((List.length a0.kids : Nat) : Int)))) hb3 h
        try simp only [go_sem]
        refine seq_go ?_
        try simp only [go_sem]
        replace h := Option.some.inj h
        obtain rfl := h
        simp only [go_sem]
theorem i_renumberDefs_ok (n : Nat) : (∀ (a0 : Core) (a1 : List Int) (r : Core), i_renumberDefs n a0 a1 = some r → AC Try.prog 134 [.agg (Core.avs a0), .ro (List.map i64D a1)] (.agg (Core.rv r))) := (i_renumberDefs_all n).1
theorem i_renumberDefs_j1_ok (n : Nat) : (∀ (a0 : Core) (a1 : List Int) (p0_0 : Int) (r : Core), i_renumberDefs_j1 n a0 a1 p0_0 = some r → posF Try.prog Try.f134 [1, 1, 1] (.agg (Core.rv r)) ⟨[(1, .ro (List.map i64D a1)), (2, .box 1000000500 0), (4, .box 1000000501 0), (5, .box 1000000502 0)], [], [(1000000500, some [.int .i64 a0.kind, .int .i64 a0.value, .ro (List.map i64D a0.data), .ro (List.map Core.ds a0.kids)]), (1000000501, some [.int .i64 0, .int .i64 0, .nils, .nils]), (1000000502, some [.int .i64 a0.kind, .int .i64 p0_0, .nils, .nils])]⟩) := (i_renumberDefs_all n).2.1
theorem i_renumberDefs_l3_ok (n : Nat) : (∀ (a0 : Core) (a1 : List Int) (p0_0 : Int) (p2_0 : List Int) (p2_1 : Int) (r : Core), i_renumberDefs_l3 n a0 a1 p0_0 p2_0 p2_1 = some r → posF Try.prog Try.f134 [1, 1, 1, 0, 1, 0] (.agg (Core.rv r)) ⟨[(1, .ro (List.map i64D a1)), (2, .box 1000002500 0), (4, .box 1000002501 0), (5, .box 1000002502 0), (24, .ro (List.map i64D a0.data)), (25, .int .i64 ((List.length a0.data : Nat) : Int)), (26, .int .i64 p2_1)], [(1000002000, some ⟨List.map i64D p2_0, some 1, 0⟩)], [(1000002500, some [.int .i64 a0.kind, .int .i64 a0.value, .ro (List.map i64D a0.data), .ro (List.map Core.ds a0.kids)]), (1000002501, some [.int .i64 0, .int .i64 0, .nils, .nils]), (1000002502, some [.int .i64 a0.kind, .int .i64 p0_0, .own 1000002000, .nils])]⟩) := (i_renumberDefs_all n).2.2.1
theorem i_renumberDefs_l5_ok (n : Nat) : (∀ (a0 : Core) (a1 : List Int) (p0_0 : Int) (p2_0 : List Int) (p4_0 : List Core) (p4_1 : Int) (r : Core), i_renumberDefs_l5 n a0 a1 p0_0 p2_0 p4_0 p4_1 = some r → posF Try.prog Try.f134 [1, 1, 1, 1, 0, 1, 0] (.agg (Core.rv r)) ⟨[(1, .ro (List.map i64D a1)), (4, .box 1000004500 0), (5, .box 1000004501 0), (40, .ro (List.map Core.ds a0.kids)), (41, .int .i64 ((List.length a0.kids : Nat) : Int)), (42, .int .i64 p4_1)], [(1000004000, some ⟨List.map i64D p2_0, some 1, 0⟩), (1000004001, some ⟨List.map Core.ds p4_0, some 4, 0⟩)], [(1000004500, some [.int .i64 0, .int .i64 0, .nils, .nils]), (1000004501, some [.int .i64 a0.kind, .int .i64 p0_0, .own 1000004000, .own 1000004001])]⟩) := (i_renumberDefs_all n).2.2.2

theorem i_TrimBook_l2_all (n : Nat) : (∀ (a0 : Book) (a1 : Int) (v5003 : (List Int)) (p1_0 : List Core) (p1_1 : Int) (r : Book × Int × Int), i_TrimBook_l2 n a0 a1 v5003 p1_0 p1_1 = some r → posF Try.prog Try.f67 [1, 1, 1, 1, 0, 1, 0] (.tup [.agg (Book.rv r.1), .int .i64 r.2.1, .int .i64 r.2.2]) ⟨[(1, .int .i64 a1), (2, .box 1000001500 0), (4, .box 1000001501 0), (8, .own 1000001000), (9, .box 1000001502 0), (23, .own 1000001000), (24, .int .i64 ((List.length v5003 : Nat) : Int)), (25, .int .i64 p1_1)], [(1000001000, some ⟨List.map i64D v5003, some 1, 0⟩), (1000001001, some ⟨List.map Core.ds p1_0, some 4, 0⟩)], [(1000001500, some [.ro (List.map Core.ds a0.defs)]), (1000001501, some [.nils]), (1000001502, some [.own 1000001001])]⟩) := by
  induction n with
  | zero => exact ((fun _ _ _ _ _ _ h => by rw [i_TrimBook_l2] at h; cases h))
  | succ n ih =>
    have ih0 := ih
    · intro a0 a1 v5003 p1_0 p1_1 r h
      rw [i_TrimBook_l2] at h
      refine posF_of rfl rfl ?_
      try simp only [go_sem]
      refine loop_i ?_
      try simp only [go_sem]
      refine cond_i (fun hb2 => ?_) (fun hb2 => ?_)
      · replace h := ifT (c := (decide (p1_1 < ((List.length v5003 : Nat) : Int)))) hb2 h
        try simp only [go_sem]
        refine seq_go ?_
        try simp only [go_sem]
        replace h := bindE h
        obtain ⟨v9000, hv9000, h⟩ := h
        refine idx_m hv9000 rfl ?_
        try simp only [go_sem]
        refine opt_i (row_m hv9000) ?_
        try simp only [go_sem]
        refine draw_i [false, false, false, false, false, false, false, false, false, false, true, true, true] (Tr.sq [10, 11, 12] .fin) (by kernel_rfl) ?_
        try simp only [go_sem]
        replace h := bindE h
        obtain ⟨v10005, hv10005, h⟩ := h
        refine idx_m hv10005 (Core.ds_len _) ?_
        try simp only [go_sem]
        replace h := bindE h
        obtain ⟨v10008, hv10008, h⟩ := h
        refine call_i (i_renumberDefs_ok fuel _ _ _ hv10008) ?_
        try simp only [go_sem]
        replace h := bindE h
        obtain ⟨v10010, hv10010, h⟩ := h
        have hq_ := app_some hv10010
        obtain ⟨hv10010a, hv10010b⟩ := hq_
        refine and_i (by refine ⟨?_, ?_⟩ <;> (try simp only [List.length_map, List.length_append, List.length_cons, List.length_nil] at *) <;> (try unfold maxLen) <;> omega) ?_
        try simp only [go_sem]
        refine row_i (List.map Core.ds v10010) (by rw [← hv10010b]; simp only [List.map_append, List.map_cons, List.map_nil, List.nil_append, List.append_nil, go_sem, Core.ds_eq]) ?_
        try simp only [go_sem]
        refine seq_go ?_
        try simp only [go_sem]
        have hj := posF_to rfl rfl (ih0 a0 a1 v5003 v10010 (IntKind.i64.wrap (p1_1 + 1)) _ h)
        refine lp_to hj (.one ⟨_, .done _, [(1000001000, 1000001000), (1000001001, 160160)], [(1000001500, 1000001500), (1000001501, 1000001501), (1000001502, 1000001502)], ?_⟩)
        clear hj
        try simp only [go_sem]
      · replace h := ifF (c := (decide (p1_1 < ((List.length v5003 : Nat) : Int)))) hb2 h
        try simp only [go_sem]
        refine seq_go ?_
        try simp only [go_sem]
        refine draw_i [false, false, false, false, true, true, true] (Tr.sq [4, 5, 6] .fin) (by kernel_rfl) ?_
        try simp only [go_sem]
        replace h := bindE h
        obtain ⟨v12003, hv12003, h⟩ := h
        refine call_i (g_Index_sint64_ok _ _ _ hv12003) ?_
        try simp only [go_sem]
        refine seq_go ?_
        try simp only [go_sem]
        replace h := Option.some.inj h
        obtain rfl := h
        simp only [go_sem]
theorem i_TrimBook_l2_ok (n : Nat) : (∀ (a0 : Book) (a1 : Int) (v5003 : (List Int)) (p1_0 : List Core) (p1_1 : Int) (r : Book × Int × Int), i_TrimBook_l2 n a0 a1 v5003 p1_0 p1_1 = some r → posF Try.prog Try.f67 [1, 1, 1, 1, 0, 1, 0] (.tup [.agg (Book.rv r.1), .int .i64 r.2.1, .int .i64 r.2.2]) ⟨[(1, .int .i64 a1), (2, .box 1000001500 0), (4, .box 1000001501 0), (8, .own 1000001000), (9, .box 1000001502 0), (23, .own 1000001000), (24, .int .i64 ((List.length v5003 : Nat) : Int)), (25, .int .i64 p1_1)], [(1000001000, some ⟨List.map i64D v5003, some 1, 0⟩), (1000001001, some ⟨List.map Core.ds p1_0, some 4, 0⟩)], [(1000001500, some [.ro (List.map Core.ds a0.defs)]), (1000001501, some [.nils]), (1000001502, some [.own 1000001001])]⟩) := (i_TrimBook_l2_all n)

theorem i_TrimBook_ok (a0 : Book) (a1 : Int) (r : Book × Int × Int) (h : i_TrimBook a0 a1 = some r) : AC Try.prog 67 [.agg (Book.avs a0), .int .i64 a1] (.tup [.agg (Book.rv r.1), .int .i64 r.2.1, .int .i64 r.2.2]) := by
  unfold i_TrimBook at h
  refine ac_fn mixed Try.func67 rfl rfl rfl (by kernel_rfl) (by kernel_rfl) ?_
  try simp only [go_sem]
  replace h := bindE h
  obtain ⟨v2002, hv2002, h⟩ := h
  refine call_i (i_hasDefinition_ok _ _ _ hv2002) ?_
  try simp only [go_sem]
  refine cond_i (fun hb1 => ?_) (fun hb1 => ?_)
  · replace h := ifT (c := (!decide (v2002 = 0))) hb1 h
    try simp only [go_sem]
    replace h := Option.some.inj h
    obtain rfl := h
    simp only [go_sem]
  · replace h := ifF (c := (!decide (v2002 = 0))) hb1 h
    try simp only [go_sem]
    refine seq_go ?_
    try simp only [go_sem]
    replace h := bindE h
    obtain ⟨v5003, hv5003, h⟩ := h
    refine call_i (i_Book_reachableFrom_ok _ _ _ hv5003) ?_
    try simp only [go_sem]
    have hj := posF_to rfl rfl (i_TrimBook_l2_ok fuel a0 a1 v5003 [] 0 _ h)
    refine loop_to hj (.one ⟨_, .cell 6000 0 2000000000 (some 4) _ (by simp only [go_sem]; rfl) (by rfl) (by simp only [go_sem]) (.done _), [(1000001000, 80048), (1000001001, 2000000000)], [(1000001500, 1000), (1000001501, 1001), (1000001502, 6000)], ?_⟩)
    clear hj
    simp only [go_sem]
    all_goals try rfl
theorem l_FnExactTrimBook_j3_ok (v18002 : Int × (List Core)) (p2_0 : Bool) (r : Bool) (h : l_FnExactTrimBook_j3 v18002 p2_0 = some r) : posF Try.prog Try.f14 [1, 1, 1, 1, 1, 1, 1, 1, 1, 1, 1, 1, 1, 1, 1, 1, 1, 1, 1, 0, 1] (.bool r) ⟨[(10, .box 1000002500 0), (14, .int .i64 v18002.1), (113, .bool p2_0)], [(1000002000, some ⟨List.map Core.ds v18002.2, some 4, 0⟩)], [(1000002500, some [.own 1000002000])]⟩ := by
  unfold l_FnExactTrimBook_j3 at h
  refine posF_of rfl rfl ?_
  try simp only [go_sem]
  refine cond_i (fun hb14 => ?_) (fun hb14 => ?_)
  · replace h := ifT (c := p2_0) hb14 h
    try simp only [go_sem]
    replace h := Option.some.inj h
    obtain rfl := h
    simp only [go_sem]
  · replace h := ifF (c := p2_0) hb14 h
    try simp only [go_sem]
    refine seq_go ?_
    try simp only [go_sem]
    replace h := bindE h
    obtain ⟨v29002, hv29002, h⟩ := h
    refine call_i (l_heldBook_ok _ _ _ hv29002) ?_
    try simp only [go_sem]
    refine cond_i (fun hb15 => ?_) (fun hb15 => ?_)
    · replace h := ifT (c := (decide (v29002 < 0))) hb15 h
      try simp only [go_sem]
      replace h := Option.some.inj h
      obtain rfl := h
      simp only [go_sem]
    · replace h := ifF (c := (decide (v29002 < 0))) hb15 h
      try simp only [go_sem]
      refine seq_go ?_
      try simp only [go_sem]
      refine cond_i (fun hb16 => ?_) (fun hb16 => ?_)
      · replace h := ifT (c := (!decide (v29002 = v18002.1))) hb16 h
        try simp only [go_sem]
        replace h := Option.some.inj h
        obtain rfl := h
        simp only [go_sem]
      · replace h := ifF (c := (!decide (v29002 = v18002.1))) hb16 h
        try simp only [go_sem]
        refine seq_go ?_
        try simp only [go_sem]
        replace h := Option.some.inj h
        obtain rfl := h
        simp only [go_sem]
theorem l_FnExactTrimBook_j2_ok (a0 : Book) (a1 : Int) (v6003 : Book × Int × Int) (v8002 : Book × Int × Int) (p1_0 : Bool) (r : Bool) (h : l_FnExactTrimBook_j2 a0 a1 v6003 v8002 p1_0 = some r) : posF Try.prog Try.f14 [1, 1, 1, 1, 1, 1, 1, 1, 1, 1, 1, 0, 1] (.bool r) ⟨[(1, .int .i64 a1), (2, .box 1000001500 0), (6, .box 1000001501 0), (7, .int .i64 v6003.2.1), (8, .int .i64 v6003.2.2), (10, .box 1000001502 0), (80, .bool p1_0)], [(1000001000, some ⟨List.map Core.ds v6003.1.defs, some 4, 0⟩), (1000001001, some ⟨List.map Core.ds v8002.1.defs, some 4, 0⟩)], [(1000001500, some [.ro (List.map Core.ds a0.defs)]), (1000001501, some [.own 1000001000]), (1000001502, some [.own 1000001001])]⟩ := by
  unfold l_FnExactTrimBook_j2 at h
  refine posF_of rfl rfl ?_
  try simp only [go_sem]
  refine cond_i (fun hb9 => ?_) (fun hb9 => ?_)
  · replace h := ifT (c := p1_0) hb9 h
    try simp only [go_sem]
    replace h := Option.some.inj h
    obtain rfl := h
    simp only [go_sem]
  · replace h := ifF (c := p1_0) hb9 h
    try simp only [go_sem]
    refine seq_go ?_
    try simp only [go_sem]
    replace h := bindE h
    obtain ⟨v18002, hv18002, h⟩ := h
    refine call_g ⟨[], [(1, 1000001001)], [], [], [], true⟩ (by kernel_rfl) (l_markBook_ok _ _ (some 4) _ hv18002) (by kernel_rfl) ?_
    try simp only [go_sem]
    replace h := bindE h
    obtain ⟨v20002, hv20002, h⟩ := h
    refine call_i (l_heldBook_ok _ _ _ hv20002) ?_
    try simp only [go_sem]
    refine cond_i (fun hb10 => ?_) (fun hb10 => ?_)
    · replace h := ifT (c := (decide (v20002 < 0))) hb10 h
      try simp only [go_sem]
      replace h := Option.some.inj h
      obtain rfl := h
      simp only [go_sem]
    · replace h := ifF (c := (decide (v20002 < 0))) hb10 h
      try simp only [go_sem]
      refine seq_go ?_
      try simp only [go_sem]
      refine cond_i (fun hb11 => ?_) (fun hb11 => ?_)
      · replace h := ifT (c := (!decide (v20002 = v18002.1))) hb11 h
        try simp only [go_sem]
        replace h := Option.some.inj h
        obtain rfl := h
        simp only [go_sem]
      · replace h := ifF (c := (!decide (v20002 = v18002.1))) hb11 h
        try simp only [go_sem]
        refine seq_go ?_
        try simp only [go_sem]
        replace h := bindE h
        obtain ⟨v25001, hv25001, h⟩ := h
        refine call_i (l_toBook_ok _ _ hv25001) ?_
        try simp only [go_sem]
        replace h := bindE h
        obtain ⟨v25003, hv25003, h⟩ := h
        refine call_i (i_TrimBook_ok _ _ _ hv25003) ?_
        try simp only [go_sem]
        replace h := bindE h
        obtain ⟨v26002, hv26002, h⟩ := h
        refine call_i (l_eqBook_ok _ _ _ hv26002) ?_
        try simp only [go_sem]
        refine cond_i (fun hb12 => ?_) (fun hb12 => ?_)
        · replace h := ifT (c := (!v26002)) hb12 h
          try simp only [go_sem]
          have hj := posF_to rfl rfl (l_FnExactTrimBook_j3_ok v18002 true _ h)
          refine seq_to hj (.one ⟨_, .done _, [(1000002000, 1000001001)], [(1000002500, 1000001502)], ?_⟩)
          clear hj
          try simp only [go_sem]
        · replace h := ifF (c := (!v26002)) hb12 h
          try simp only [go_sem]
          refine cond_i (fun hb13 => ?_) (fun hb13 => ?_)
          · replace h := ifT (c := (!decide (v25003.2.1 = v6003.2.1))) hb13 h
            try simp only [go_sem]
            have hj := posF_to rfl rfl (l_FnExactTrimBook_j3_ok v18002 true _ h)
            refine seq_to hj (.one ⟨_, .done _, [(1000002000, 1000001001)], [(1000002500, 1000001502)], ?_⟩)
            clear hj
            try simp only [go_sem]
          · replace h := ifF (c := (!decide (v25003.2.1 = v6003.2.1))) hb13 h
            try simp only [go_sem]
            have hj := posF_to rfl rfl (l_FnExactTrimBook_j3_ok v18002 (!decide (v25003.2.2 = v6003.2.2)) _ h)
            refine seq_to hj (.one ⟨_, .done _, [(1000002000, 1000001001)], [(1000002500, 1000001502)], ?_⟩)
            clear hj
            try simp only [go_sem]
theorem l_FnExactTrimBook_j1_ok (a0 : Book) (a1 : Int) (v6003 : Book × Int × Int) (v7001 : Book) (v8002 : Book × Int × Int) (p0_0 : Bool) (r : Bool) (h : l_FnExactTrimBook_j1 a0 a1 v6003 v7001 v8002 p0_0 = some r) : posF Try.prog Try.f14 [1, 1, 1, 1, 1, 1, 1, 0, 1] (.bool r) ⟨[(1, .int .i64 a1), (2, .box 1000000500 0), (6, .box 1000000501 0), (7, .int .i64 v6003.2.1), (8, .int .i64 v6003.2.2), (9, .box 1000000502 0), (10, .box 1000000503 0), (11, .int .i64 v8002.2.1), (12, .int .i64 v8002.2.2), (54, .bool p0_0)], [(1000000000, some ⟨List.map Core.ds v6003.1.defs, some 4, 0⟩), (1000000001, some ⟨List.map Core.ds v7001.defs, some 4, 0⟩), (1000000002, some ⟨List.map Core.ds v8002.1.defs, some 4, 0⟩)], [(1000000500, some [.ro (List.map Core.ds a0.defs)]), (1000000501, some [.own 1000000000]), (1000000502, some [.own 1000000001]), (1000000503, some [.own 1000000002])]⟩ := by
  unfold l_FnExactTrimBook_j1 at h
  refine posF_of rfl rfl ?_
  try simp only [go_sem]
  refine cond_i (fun hb4 => ?_) (fun hb4 => ?_)
  · replace h := ifT (c := p0_0) hb4 h
    try simp only [go_sem]
    replace h := Option.some.inj h
    obtain rfl := h
    simp only [go_sem]
  · replace h := ifF (c := p0_0) hb4 h
    try simp only [go_sem]
    refine seq_go ?_
    try simp only [go_sem]
    refine draw_i [] .fin (by kernel_rfl) ?_
    try simp only [go_sem]
    replace h := bindE h
    obtain ⟨v11002, hv11002, h⟩ := h
    refine call_i (l_toBook_ok _ _ hv11002) ?_
    try simp only [go_sem]
    replace h := bindE h
    obtain ⟨v11003, hv11003, h⟩ := h
    refine call_i (l_eqBook_ok _ _ _ hv11003) ?_
    try simp only [go_sem]
    refine seq_go ?_
    try simp only [go_sem]
    refine cond_i (fun hb5 => ?_) (fun hb5 => ?_)
    · replace h := ifT (c := (!v11003)) hb5 h
      try simp only [go_sem]
      replace h := Option.some.inj h
      obtain rfl := h
      simp only [go_sem]
    · replace h := ifF (c := (!v11003)) hb5 h
      try simp only [go_sem]
      refine seq_go ?_
      try simp only [go_sem]
      replace h := bindE h
      obtain ⟨v14002, hv14002, h⟩ := h
      refine call_g ⟨[], [(1, 1000000001)], [], [], [], true⟩ (by kernel_rfl) (l_markBook_ok _ _ (some 4) _ hv14002) (by kernel_rfl) ?_
      try simp only [go_sem]
      refine cond_i (fun hb6 => ?_) (fun hb6 => ?_)
      · replace h := ifT (c := (decide (v14002.1 < 0))) hb6 h
        try simp only [go_sem]
        have hj := posF_to rfl rfl (l_FnExactTrimBook_j2_ok a0 a1 v6003 v8002 true _ h)
        refine seq_to hj (.one ⟨_, .done _, [(1000001000, 1000000000), (1000001001, 1000000002)], [(1000001500, 1000000500), (1000001501, 1000000501), (1000001502, 1000000503)], ?_⟩)
        clear hj
        try simp only [go_sem]
      · replace h := ifF (c := (decide (v14002.1 < 0))) hb6 h
        try simp only [go_sem]
        replace h := bindE h
        obtain ⟨v15005, hv15005, h⟩ := h
        refine call_i (l_eqBook_ok _ _ _ hv15005) ?_
        try simp only [go_sem]
        refine cond_i (fun hb7 => ?_) (fun hb7 => ?_)
        · replace h := ifT (c := (!v15005)) hb7 h
          try simp only [go_sem]
          have hj := posF_to rfl rfl (l_FnExactTrimBook_j2_ok a0 a1 v6003 v8002 true _ h)
          refine seq_to hj (.one ⟨_, .done _, [(1000001000, 1000000000), (1000001001, 1000000002)], [(1000001500, 1000000500), (1000001501, 1000000501), (1000001502, 1000000503)], ?_⟩)
          clear hj
          try simp only [go_sem]
        · replace h := ifF (c := (!v15005)) hb7 h
          try simp only [go_sem]
          refine cond_i (fun hb8 => ?_) (fun hb8 => ?_)
          · replace h := ifT (c := (!decide (v8002.2.1 = v6003.2.1))) hb8 h
            try simp only [go_sem]
            have hj := posF_to rfl rfl (l_FnExactTrimBook_j2_ok a0 a1 v6003 v8002 true _ h)
            refine seq_to hj (.one ⟨_, .done _, [(1000001000, 1000000000), (1000001001, 1000000002)], [(1000001500, 1000000500), (1000001501, 1000000501), (1000001502, 1000000503)], ?_⟩)
            clear hj
            try simp only [go_sem]
          · replace h := ifF (c := (!decide (v8002.2.1 = v6003.2.1))) hb8 h
            try simp only [go_sem]
            have hj := posF_to rfl rfl (l_FnExactTrimBook_j2_ok a0 a1 v6003 v8002 (!decide (v8002.2.2 = v6003.2.2)) _ h)
            refine seq_to hj (.one ⟨_, .done _, [(1000001000, 1000000000), (1000001001, 1000000002)], [(1000001500, 1000000500), (1000001501, 1000000501), (1000001502, 1000000503)], ?_⟩)
            clear hj
            try simp only [go_sem]
theorem l_FnExactTrimBook_ok (a0 : Book) (a1 : Int) (r : Bool) (h : l_FnExactTrimBook a0 a1 = some r) : AC Try.prog 14 [.agg (Book.avs a0), .int .i64 a1] (.bool r) := by
  unfold l_FnExactTrimBook at h
  refine ac_fn mixed Try.func14 rfl rfl rfl (by kernel_rfl) (by kernel_rfl) ?_
  try simp only [go_sem]
  replace h := bindE h
  obtain ⟨v3002, hv3002, h⟩ := h
  refine call_i (l_szBook_ok _ _ _ hv3002) ?_
  try simp only [go_sem]
  refine cond_i (fun hb1 => ?_) (fun hb1 => ?_)
  · replace h := ifT (c := (decide (v3002 < 0))) hb1 h
    try simp only [go_sem]
    replace h := Option.some.inj h
    obtain rfl := h
    simp only [go_sem]
  · replace h := ifF (c := (decide (v3002 < 0))) hb1 h
    try simp only [go_sem]
    refine seq_go ?_
    try simp only [go_sem]
    replace h := bindE h
    obtain ⟨v6001, hv6001, h⟩ := h
    refine call_i (l_toBook_ok _ _ hv6001) ?_
    try simp only [go_sem]
    replace h := bindE h
    obtain ⟨v6003, hv6003, h⟩ := h
    refine call_i (s_TrimBook_ok _ _ _ hv6003) ?_
    try simp only [go_sem]
    replace h := bindE h
    obtain ⟨v7001, hv7001, h⟩ := h
    refine call_i (l_toBook_ok _ _ hv7001) ?_
    try simp only [go_sem]
    replace h := bindE h
    obtain ⟨v8002, hv8002, h⟩ := h
    refine call_i (i_TrimBook_ok _ _ _ hv8002) ?_
    try simp only [go_sem]
    replace h := bindE h
    obtain ⟨v9002, hv9002, h⟩ := h
    refine call_i (l_eqBook_ok _ _ _ hv9002) ?_
    try simp only [go_sem]
    refine cond_i (fun hb2 => ?_) (fun hb2 => ?_)
    · replace h := ifT (c := (!v9002)) hb2 h
      try simp only [go_sem]
      have hj := posF_to rfl rfl (l_FnExactTrimBook_j1_ok a0 a1 v6003 v7001 v8002 true _ h)
      refine seq_to hj (.one ⟨_, .done _, [(1000000000, 96048), (1000000001, 112016), (1000000002, 128032)], [(1000000500, 1000), (1000000501, 6008), (1000000502, 7002), (1000000503, 8007)], ?_⟩)
      clear hj
      try simp only [go_sem]
    · replace h := ifF (c := (!v9002)) hb2 h
      try simp only [go_sem]
      refine cond_i (fun hb3 => ?_) (fun hb3 => ?_)
      · replace h := ifT (c := (!decide (v8002.2.1 = v6003.2.1))) hb3 h
        try simp only [go_sem]
        have hj := posF_to rfl rfl (l_FnExactTrimBook_j1_ok a0 a1 v6003 v7001 v8002 true _ h)
        refine seq_to hj (.one ⟨_, .done _, [(1000000000, 96048), (1000000001, 112016), (1000000002, 128032)], [(1000000500, 1000), (1000000501, 6008), (1000000502, 7002), (1000000503, 8007)], ?_⟩)
        clear hj
        try simp only [go_sem]
      · replace h := ifF (c := (!decide (v8002.2.1 = v6003.2.1))) hb3 h
        try simp only [go_sem]
        have hj := posF_to rfl rfl (l_FnExactTrimBook_j1_ok a0 a1 v6003 v7001 v8002 (!decide (v8002.2.2 = v6003.2.2)) _ h)
        refine seq_to hj (.one ⟨_, .done _, [(1000000000, 96048), (1000000001, 112016), (1000000002, 128032)], [(1000000500, 1000), (1000000501, 6008), (1000000502, 7002), (1000000503, 8007)], ?_⟩)
        clear hj
        try simp only [go_sem]
end Go.Proofs.Ytffokcfdkkikmaa.Ab
