/-
  The functions do what their models say. Printed by wip/ab/gen.py.
-/
import Derived.Test.YtgigfdghecdlgaaModS
import Derived.Test.YtgigfdghecdlgaaTi2
import Derived.Test.YtgigfdghecdlgaaWlkR
namespace Go.Proofs.Ytgigfdghecdlgaa.Ab
set_option linter.unusedVariables false
set_option linter.unusedSimpArgs false
set_option maxRecDepth 20000
set_option maxHeartbeats 4000000
open Go.RowKit

theorem s_l38Tree_all (n : Nat) : (∀ (a0 : Core) (a1 : List ByteArray) (a2 : Int) (r : L38T × Int), s_l38Tree n a0 a1 a2 = some r → AG Try.prog 40 [.rop [.int .i64 a0.kind, .int .i64 a0.value, .ro (List.map i64D a0.data), .ro (List.map Core.ds a0.kids)] 0, .ro (List.map strD a1), .box 1 0] [] [(1, [.int .i64 a2])] (.agg [.int .i64 r.1.kind, .int .i64 r.1.value, .ro (List.map i64D r.1.data), .str r.1.label, .ro (List.map L38T.ds r.1.kids)]) [] [(1, [.int .i64 r.2])]) ∧
    (∀ (a0 : Core) (a1 : List ByteArray) (v2016 : ByteArray) (p1_0 : Int) (p1_1 : List L38T) (p1_2 : Int) (r : L38T × Int), s_l38Tree_l2 n a0 a1 v2016 p1_0 p1_1 p1_2 = some r → posG Try.prog Try.f40 [1, 1, 1, 0, 1, 0] (.agg [.int .i64 r.1.kind, .int .i64 r.1.value, .ro (List.map i64D r.1.data), .str r.1.label, .ro (List.map L38T.ds r.1.kids)]) [] [(1, [.int .i64 r.2])] ⟨[(0, .rop [.int .i64 a0.kind, .int .i64 a0.value, .ro (List.map i64D a0.data), .ro (List.map Core.ds a0.kids)] 0), (1, .ro (List.map strD a1)), (2, .box 1 0), (6, .box 1000001500 0), (7, .box 1000001501 0), (8, .int .i64 p1_2)], [(1000001000, some ⟨List.map L38T.dz p1_1, some 5, 0, true⟩)], [(1, some [.int .i64 p1_0]), (1000001500, some [.int .i64 0, .int .i64 0, .nils, .str ByteArray.empty, .nils]), (1000001501, some [.int .i64 a0.kind, .int .i64 a0.value, .ro (List.map i64D a0.data), .str v2016, .own 1000001000])]⟩) := by
  induction n with
  | zero => exact ⟨(fun _ _ _ _ h => by rw [s_l38Tree] at h; cases h), (fun _ _ _ _ _ _ _ h => by rw [s_l38Tree_l2] at h; cases h)⟩
  | succ n ih =>
    obtain ⟨ih0, ih1⟩ := ih
    refine ⟨?_, ?_⟩
    · intro a0 a1 a2 r h
      rw [s_l38Tree] at h
      refine ag_fn mixed Try.func40 rfl rfl rfl (by kernel_rfl) (by kernel_rfl) ?_
      try simp only [go_sem]
      refine seq_go ?_
      try simp only [go_sem]
      refine draw_i [false, false, false, false, false, false, false, false, false, false, false, false, false, false, false, false, false, false, false, false, true] (Tr.sq [20] .fin) (by kernel_rfl) ?_
      try simp only [go_sem]
      replace h := bindE h
      obtain ⟨v2016, hv2016, h⟩ := h
      refine idx_m hv2016 rfl ?_
      try simp only [go_sem]
      refine seq_go ?_
      try simp only [go_sem]
      have hj := posG_to rfl rfl (ih1 a0 a1 v2016 (IntKind.i64.wrap (a2 + 1)) [] 0 _ h)
      refine loop_to hj (.one ⟨_, .cell 2019 4 2000000000 (some 5) true _ (by simp only [go_sem]; rfl) (by rfl) (by simp only [go_sem]) (.done _), [(1000001000, 2000000000)], [(1, 1), (1000001500, 1000), (1000001501, 2019)], ?_⟩)
      clear hj
      simp only [go_sem]
      all_goals try rfl
    · intro a0 a1 v2016 p1_0 p1_1 p1_2 r h
      rw [s_l38Tree_l2] at h
      refine posG_of rfl rfl ?_
      try simp only [go_sem]
      refine loop_i ?_
      try simp only [go_sem]
      refine cond_i (fun hb1 => ?_) (fun hb1 => ?_)
      · replace h := ifT (c := (decide (p1_2 < ((List.length a0.kids : Nat) : Int)))) hb1 h
        try simp only [go_sem]
        refine seq_go ?_
        try simp only [go_sem]
        replace h := bindE h
        obtain ⟨v7007, hv7007, h⟩ := h
        replace h := bindE h
        obtain ⟨v7010, hv7010, h⟩ := h
        replace h := bindE h
        obtain ⟨v7012, hv7012, h⟩ := h
        refine draw_i [false, true, false, true, true, true, false, true, false, false, true, true, true, true, true] (.br 1 (Tr.sq [3, 4, 5, 7, 10, 11, 12, 13, 14] .fin) (.br 3 (Tr.sq [4] (.br 1 (Tr.sq [5, 7, 10, 11, 12, 13, 14] .fin) (.br 5 (Tr.sq [7] (.br 1 (Tr.sq [10, 11, 12, 13, 14] .fin) (.br 10 (.br 1 (Tr.sq [11, 12, 13, 14] .fin) (.br 11 (Tr.sq [1, 12, 13, 14] .fin) .stop)) .stop))) .stop))) .stop)) (by kernel_rfl) ?_
        try simp only [go_sem]
        try simp only [go_sem]
        refine alt_i ?_ ?_
        · try simp only [go_sem]
          refine idx_m hv7007 (Core.ds_len _) ?_
          try simp only [go_sem]
          refine call_g ⟨[], [], [(1, 1, 0)], [], [], true⟩ (by kernel_rfl) (ih0 _ _ _ _ hv7010) (by kernel_rfl) ?_
          try simp only [go_sem]
          have hq_ := app_some hv7012
          obtain ⟨hv7012a, hv7012b⟩ := hq_
          refine zed_i true ?_
          try simp only [go_sem]
          refine and_i (by refine ⟨?_, ?_⟩ <;> (try simp only [List.length_map, List.length_append, List.length_cons, List.length_nil] at *) <;> (try unfold maxLen) <;> omega) ?_
          try simp only [go_sem]
          refine row_i (List.map L38T.dz v7012) (by rw [← hv7012b]; simp only [List.map_append, List.map_cons, List.map_nil, List.nil_append, List.append_nil, go_sem, L38T.ds_eq, L38T.dz_eq]) ?_
          try simp only [go_sem]
          refine seq_go ?_
          try simp only [go_sem]
          have hj := posG_to rfl rfl (ih1 a0 a1 v2016 v7010.2 v7012 (IntKind.i64.wrap (p1_2 + 1)) _ h)
          refine lp_to hj (.one ⟨_, .done _, [(1000001000, 112192)], [(1, 1), (1000001500, 1000001500), (1000001501, 1000001501)], ?_⟩)
          clear hj
          try simp only [go_sem]
        · try simp only [go_sem]
          try simp only [go_sem]
          refine alt_i ?_ ?_
          · try simp only [go_sem]
            refine idx_m hv7007 (Core.ds_len _) ?_
            try simp only [go_sem]
            refine call_g ⟨[], [], [(1, 1, 0)], [], [], true⟩ (by kernel_rfl) (ih0 _ _ _ _ hv7010) (by kernel_rfl) ?_
            try simp only [go_sem]
            have hq_ := app_some hv7012
            obtain ⟨hv7012a, hv7012b⟩ := hq_
            refine zed_i true ?_
            try simp only [go_sem]
            refine and_i (by refine ⟨?_, ?_⟩ <;> (try simp only [List.length_map, List.length_append, List.length_cons, List.length_nil] at *) <;> (try unfold maxLen) <;> omega) ?_
            try simp only [go_sem]
            refine row_i (List.map L38T.dz v7012) (by rw [← hv7012b]; simp only [List.map_append, List.map_cons, List.map_nil, List.nil_append, List.append_nil, go_sem, L38T.ds_eq, L38T.dz_eq]) ?_
            try simp only [go_sem]
            refine seq_go ?_
            try simp only [go_sem]
            have hj := posG_to rfl rfl (ih1 a0 a1 v2016 v7010.2 v7012 (IntKind.i64.wrap (p1_2 + 1)) _ h)
            refine lp_to hj (.one ⟨_, .done _, [(1000001000, 112192)], [(1, 1), (1000001500, 1000001500), (1000001501, 1000001501)], ?_⟩)
            clear hj
            try simp only [go_sem]
          · try simp only [go_sem]
            refine idx_m hv7007 (Core.ds_len _) ?_
            try simp only [go_sem]
            try simp only [go_sem]
            refine alt_i ?_ ?_
            · try simp only [go_sem]
              refine call_g ⟨[], [], [(1, 1, 0)], [], [], true⟩ (by kernel_rfl) (ih0 _ _ _ _ hv7010) (by kernel_rfl) ?_
              try simp only [go_sem]
              have hq_ := app_some hv7012
              obtain ⟨hv7012a, hv7012b⟩ := hq_
              refine zed_i true ?_
              try simp only [go_sem]
              refine and_i (by refine ⟨?_, ?_⟩ <;> (try simp only [List.length_map, List.length_append, List.length_cons, List.length_nil] at *) <;> (try unfold maxLen) <;> omega) ?_
              try simp only [go_sem]
              refine row_i (List.map L38T.dz v7012) (by rw [← hv7012b]; simp only [List.map_append, List.map_cons, List.map_nil, List.nil_append, List.append_nil, go_sem, L38T.ds_eq, L38T.dz_eq]) ?_
              try simp only [go_sem]
              refine seq_go ?_
              try simp only [go_sem]
              have hj := posG_to rfl rfl (ih1 a0 a1 v2016 v7010.2 v7012 (IntKind.i64.wrap (p1_2 + 1)) _ h)
              refine lp_to hj (.one ⟨_, .done _, [(1000001000, 112192)], [(1, 1), (1000001500, 1000001500), (1000001501, 1000001501)], ?_⟩)
              clear hj
              try simp only [go_sem]
            · try simp only [go_sem]
              refine call_g ⟨[], [], [(1, 1, 0)], [], [], true⟩ (by kernel_rfl) (ih0 _ _ _ _ hv7010) (by kernel_rfl) ?_
              try simp only [go_sem]
              try simp only [go_sem]
              refine alt_i ?_ ?_
              · try simp only [go_sem]
                have hq_ := app_some hv7012
                obtain ⟨hv7012a, hv7012b⟩ := hq_
                refine zed_i true ?_
                try simp only [go_sem]
                refine and_i (by refine ⟨?_, ?_⟩ <;> (try simp only [List.length_map, List.length_append, List.length_cons, List.length_nil] at *) <;> (try unfold maxLen) <;> omega) ?_
                try simp only [go_sem]
                refine row_i (List.map L38T.dz v7012) (by rw [← hv7012b]; simp only [List.map_append, List.map_cons, List.map_nil, List.nil_append, List.append_nil, go_sem, L38T.ds_eq, L38T.dz_eq]) ?_
                try simp only [go_sem]
                refine seq_go ?_
                try simp only [go_sem]
                have hj := posG_to rfl rfl (ih1 a0 a1 v2016 v7010.2 v7012 (IntKind.i64.wrap (p1_2 + 1)) _ h)
                refine lp_to hj (.one ⟨_, .done _, [(1000001000, 112192)], [(1, 1), (1000001500, 1000001500), (1000001501, 1000001501)], ?_⟩)
                clear hj
                try simp only [go_sem]
              · try simp only [go_sem]
                have hq_ := app_some hv7012
                obtain ⟨hv7012a, hv7012b⟩ := hq_
                refine zed_i true ?_
                try simp only [go_sem]
                refine and_i (by refine ⟨?_, ?_⟩ <;> (try simp only [List.length_map, List.length_append, List.length_cons, List.length_nil] at *) <;> (try unfold maxLen) <;> omega) ?_
                try simp only [go_sem]
                refine row_i (List.map L38T.dz v7012) (by rw [← hv7012b]; simp only [List.map_append, List.map_cons, List.map_nil, List.nil_append, List.append_nil, go_sem, L38T.ds_eq, L38T.dz_eq]) ?_
                try simp only [go_sem]
                refine seq_go ?_
                try simp only [go_sem]
                have hj := posG_to rfl rfl (ih1 a0 a1 v2016 v7010.2 v7012 (IntKind.i64.wrap (p1_2 + 1)) _ h)
                refine lp_to hj (.one ⟨_, .done _, [(1000001000, 112192)], [(1, 1), (1000001500, 1000001500), (1000001501, 1000001501)], ?_⟩)
                clear hj
                try simp only [go_sem]
      · replace h := ifF (c := (decide (p1_2 < ((List.length a0.kids : Nat) : Int)))) hb1 h
        try simp only [go_sem]
        refine seq_go ?_
        try simp only [go_sem]
        replace h := Option.some.inj h
        obtain rfl := h
        refine ret_i (.frzT 1000001000 [(0, [4])] [(1000001500, 4), (1000001501, 4)] _ _ _ (by (first | rfl | (simp only [go_sem]; rfl))) (by decide) (by (first | rfl | (simp only [go_sem]; rfl))) (by (first | rfl | (simp only [go_sem]; rfl))) (.done _)) [] [(1, 1)] ?_
        simp only [go_sem]
        all_goals try rfl
theorem s_l38Tree_ok (n : Nat) : (∀ (a0 : Core) (a1 : List ByteArray) (a2 : Int) (r : L38T × Int), s_l38Tree n a0 a1 a2 = some r → AG Try.prog 40 [.rop [.int .i64 a0.kind, .int .i64 a0.value, .ro (List.map i64D a0.data), .ro (List.map Core.ds a0.kids)] 0, .ro (List.map strD a1), .box 1 0] [] [(1, [.int .i64 a2])] (.agg [.int .i64 r.1.kind, .int .i64 r.1.value, .ro (List.map i64D r.1.data), .str r.1.label, .ro (List.map L38T.ds r.1.kids)]) [] [(1, [.int .i64 r.2])]) := (s_l38Tree_all n).1
theorem s_l38Tree_l2_ok (n : Nat) : (∀ (a0 : Core) (a1 : List ByteArray) (v2016 : ByteArray) (p1_0 : Int) (p1_1 : List L38T) (p1_2 : Int) (r : L38T × Int), s_l38Tree_l2 n a0 a1 v2016 p1_0 p1_1 p1_2 = some r → posG Try.prog Try.f40 [1, 1, 1, 0, 1, 0] (.agg [.int .i64 r.1.kind, .int .i64 r.1.value, .ro (List.map i64D r.1.data), .str r.1.label, .ro (List.map L38T.ds r.1.kids)]) [] [(1, [.int .i64 r.2])] ⟨[(0, .rop [.int .i64 a0.kind, .int .i64 a0.value, .ro (List.map i64D a0.data), .ro (List.map Core.ds a0.kids)] 0), (1, .ro (List.map strD a1)), (2, .box 1 0), (6, .box 1000001500 0), (7, .box 1000001501 0), (8, .int .i64 p1_2)], [(1000001000, some ⟨List.map L38T.dz p1_1, some 5, 0, true⟩)], [(1, some [.int .i64 p1_0]), (1000001500, some [.int .i64 0, .int .i64 0, .nils, .str ByteArray.empty, .nils]), (1000001501, some [.int .i64 a0.kind, .int .i64 a0.value, .ro (List.map i64D a0.data), .str v2016, .own 1000001000])]⟩) := (s_l38Tree_all n).2

theorem s_l38Find_all (n : Nat) : (∀ (a0 : L38T) (a1 : Int) (r : L38T × Bool × Int), s_l38Find n a0 a1 = some r → AG Try.prog 41 [.rop [.int .i64 a0.kind, .int .i64 a0.value, .ro (List.map i64D a0.data), .str a0.label, .ro (List.map L38T.ds a0.kids)] 0, .box 1 0] [] [(1, [.int .i64 a1])] (.tup [.rop [.int .i64 r.1.kind, .int .i64 r.1.value, .ro (List.map i64D r.1.data), .str r.1.label, .ro (List.map L38T.ds r.1.kids)] 0, .bool r.2.1]) [] [(1, [.int .i64 r.2.2])]) ∧
    (∀ (a0 : L38T) (p0_0 : Int) (p0_1 : Int) (r : L38T × Bool × Int), s_l38Find_l1 n a0 p0_0 p0_1 = some r → posG Try.prog Try.f41 [1, 1, 1, 0, 1, 0] (.tup [.rop [.int .i64 r.1.kind, .int .i64 r.1.value, .ro (List.map i64D r.1.data), .str r.1.label, .ro (List.map L38T.ds r.1.kids)] 0, .bool r.2.1]) [] [(1, [.int .i64 r.2.2])] ⟨[(0, .rop [.int .i64 a0.kind, .int .i64 a0.value, .ro (List.map i64D a0.data), .str a0.label, .ro (List.map L38T.ds a0.kids)] 0), (1, .box 1 0), (6, .int .i64 p0_1)], [], [(1, some [.int .i64 p0_0])]⟩) := by
  induction n with
  | zero => exact ⟨(fun _ _ _ h => by rw [s_l38Find] at h; cases h), (fun _ _ _ _ h => by rw [s_l38Find_l1] at h; cases h)⟩
  | succ n ih =>
    obtain ⟨ih0, ih1⟩ := ih
    refine ⟨?_, ?_⟩
    · intro a0 a1 r h
      rw [s_l38Find] at h
      refine ag_fn mixed Try.func41 rfl rfl rfl (by kernel_rfl) (by kernel_rfl) ?_
      try simp only [go_sem]
      refine cond_i (fun hb1 => ?_) (fun hb1 => ?_)
      · replace h := ifT (c := (decide (a1 = 0))) hb1 h
        try simp only [go_sem]
        replace h := Option.some.inj h
        obtain rfl := h
        refine ret_i (.done _) [] [(1, 1)] ?_
        simp only [go_sem]
      · replace h := ifF (c := (decide (a1 = 0))) hb1 h
        try simp only [go_sem]
        refine seq_go ?_
        try simp only [go_sem]
        have hj := posG_to rfl rfl (ih1 a0 (IntKind.i64.wrap (a1 - 1)) 0 _ h)
        refine loop_to hj (.one ⟨_, .done _, [], [(1, 1)], ?_⟩)
        clear hj
        try simp only [go_sem]
    · intro a0 p0_0 p0_1 r h
      rw [s_l38Find_l1] at h
      refine posG_of rfl rfl ?_
      try simp only [go_sem]
      refine loop_i ?_
      try simp only [go_sem]
      refine cond_i (fun hb2 => ?_) (fun hb2 => ?_)
      · replace h := ifT (c := (decide (p0_1 < ((List.length a0.kids : Nat) : Int)))) hb2 h
        try simp only [go_sem]
        refine seq_go ?_
        try simp only [go_sem]
        replace h := bindE h
        obtain ⟨v8005, hv8005, h⟩ := h
        refine idx_m hv8005 (L38T.ds_len _) ?_
        try simp only [go_sem]
        replace h := bindE h
        obtain ⟨v8007, hv8007, h⟩ := h
        refine call_g ⟨[], [], [(1, 1, 0)], [], [], true⟩ (by kernel_rfl) (ih0 _ _ _ hv8007) (by kernel_rfl) ?_
        try simp only [go_sem]
        refine seq_go ?_
        try simp only [go_sem]
        refine cond_i (fun hb3 => ?_) (fun hb3 => ?_)
        · replace h := ifT (c := v8007.2.1) hb3 h
          try simp only [go_sem]
          replace h := Option.some.inj h
          obtain rfl := h
          refine ret_i (.done _) [] [(1, 1)] ?_
          simp only [go_sem]
        · replace h := ifF (c := v8007.2.1) hb3 h
          try simp only [go_sem]
          refine seq_go ?_
          try simp only [go_sem]
          have hj := posG_to rfl rfl (ih1 a0 v8007.2.2 (IntKind.i64.wrap (p0_1 + 1)) _ h)
          refine lp_to hj (.one ⟨_, .done _, [], [(1, 1)], ?_⟩)
          clear hj
          try simp only [go_sem]
      · replace h := ifF (c := (decide (p0_1 < ((List.length a0.kids : Nat) : Int)))) hb2 h
        try simp only [go_sem]
        refine seq_go ?_
        try simp only [go_sem]
        replace h := Option.some.inj h
        obtain rfl := h
        refine ret_i (.done _) [] [(1, 1)] ?_
        simp only [go_sem]
theorem s_l38Find_ok (n : Nat) : (∀ (a0 : L38T) (a1 : Int) (r : L38T × Bool × Int), s_l38Find n a0 a1 = some r → AG Try.prog 41 [.rop [.int .i64 a0.kind, .int .i64 a0.value, .ro (List.map i64D a0.data), .str a0.label, .ro (List.map L38T.ds a0.kids)] 0, .box 1 0] [] [(1, [.int .i64 a1])] (.tup [.rop [.int .i64 r.1.kind, .int .i64 r.1.value, .ro (List.map i64D r.1.data), .str r.1.label, .ro (List.map L38T.ds r.1.kids)] 0, .bool r.2.1]) [] [(1, [.int .i64 r.2.2])]) := (s_l38Find_all n).1
theorem s_l38Find_l1_ok (n : Nat) : (∀ (a0 : L38T) (p0_0 : Int) (p0_1 : Int) (r : L38T × Bool × Int), s_l38Find_l1 n a0 p0_0 p0_1 = some r → posG Try.prog Try.f41 [1, 1, 1, 0, 1, 0] (.tup [.rop [.int .i64 r.1.kind, .int .i64 r.1.value, .ro (List.map i64D r.1.data), .str r.1.label, .ro (List.map L38T.ds r.1.kids)] 0, .bool r.2.1]) [] [(1, [.int .i64 r.2.2])] ⟨[(0, .rop [.int .i64 a0.kind, .int .i64 a0.value, .ro (List.map i64D a0.data), .str a0.label, .ro (List.map L38T.ds a0.kids)] 0), (1, .box 1 0), (6, .int .i64 p0_1)], [], [(1, some [.int .i64 p0_0])]⟩) := (s_l38Find_all n).2

theorem s_l38At_j1_ok (a1 : Int) (v5007 : L38T × Int) (r : L38T × Bool) (h : s_l38At_j1 a1 v5007 = some r) : posG Try.prog Try.f19 [1, 1, 1, 1] (.tup [.rop [.int .i64 r.1.kind, .int .i64 r.1.value, .ro (List.map i64D r.1.data), .str r.1.label, .ro (List.map L38T.ds r.1.kids)] 0, .bool r.2]) [] [] ⟨[(3, .box 1000000500 0), (7, .rop [.int .i64 v5007.1.kind, .int .i64 v5007.1.value, .ro (List.map i64D v5007.1.data), .str v5007.1.label, .ro (List.map L38T.ds v5007.1.kids)] 0)], [], [(1000000500, some [.int .i64 a1])]⟩ := by
  unfold s_l38At_j1 at h
  refine posG_of rfl rfl ?_
  try simp only [go_sem]
  replace h := bindE h
  obtain ⟨v6000, hv6000, h⟩ := h
  refine call_g ⟨[], [], [(1, 1000000500, 0)], [], [], true⟩ (by kernel_rfl) (s_l38Find_ok fuel _ _ _ hv6000) (by kernel_rfl) ?_
  try simp only [go_sem]
  refine seq_go ?_
  try simp only [go_sem]
  replace h := Option.some.inj h
  obtain rfl := h
  refine ret_i (.done _) [] [] ?_
  simp only [go_sem]
theorem s_l38At_ok (a0 : Labelled) (a1 : Int) (r : L38T × Bool) (h : s_l38At a0 a1 = some r) : AG Try.prog 19 [.rop [.int .i64 a0.term.kind, .int .i64 a0.term.value, .ro (List.map i64D a0.term.data), .ro (List.map Core.ds a0.term.kids), .ro (List.map strD a0.labels)] 0, .int .i64 a1] [] [] (.tup [.rop [.int .i64 r.1.kind, .int .i64 r.1.value, .ro (List.map i64D r.1.data), .str r.1.label, .ro (List.map L38T.ds r.1.kids)] 0, .bool r.2]) [] [] := by
  unfold s_l38At at h
  refine ag_fn mixed Try.func19 rfl rfl rfl (by kernel_rfl) (by kernel_rfl) ?_
  try simp only [go_sem]
  refine draw_i [] .fin (by kernel_rfl) ?_
  try simp only [go_sem]
  replace h := bindE h
  obtain ⟨v2007, hv2007, h⟩ := h
  refine call_i (s_l00In_ok _ _ _ _ hv2007) ?_
  try simp only [go_sem]
  refine seq_go ?_
  try simp only [go_sem]
  refine cond_i (fun hb1 => ?_) (fun hb1 => ?_)
  · replace h := ifT (c := (!v2007)) hb1 h
    try simp only [go_sem]
    replace h := Option.some.inj h
    obtain rfl := h
    refine ret_i (.frzB 3001 [(0, [0])] [] _ _ _ (by (first | rfl | (simp only [go_sem]; rfl))) (by decide) (by rfl) (by (first | rfl | (simp only [go_sem]; rfl))) (by (first | rfl | (simp only [go_sem]; rfl))) (.done _)) [] [] ?_
    simp only [go_sem]
    all_goals try rfl
  · replace h := ifF (c := (!v2007)) hb1 h
    try simp only [go_sem]
    refine seq_go ?_
    try simp only [go_sem]
    refine seq_go ?_
    try simp only [go_sem]
    replace h := bindE h
    obtain ⟨v5007, hv5007, h⟩ := h
    refine draw_i [false, true, true, false, true, true, true, true, true, true] (.br 1 (Tr.sq [2] (.br 4 (Tr.sq [5] (.br 6 (.br 7 (Tr.sq [8, 9] .fin) (.br 8 (Tr.sq [7, 9] .fin) .stop)) (.br 8 (Tr.sq [6, 7, 9] .fin) .stop))) (.br 8 (Tr.sq [4, 5, 6, 7, 9] .fin) .stop))) (.br 4 (Tr.sq [5] (.br 1 (Tr.sq [2] (.br 6 (.br 7 (Tr.sq [8, 9] .fin) (.br 8 (Tr.sq [7, 9] .fin) .stop)) (.br 8 (Tr.sq [6, 7, 9] .fin) .stop))) (.br 6 (.br 1 (Tr.sq [2] (.br 7 (Tr.sq [8, 9] .fin) (.br 8 (Tr.sq [7, 9] .fin) .stop))) (.br 8 (Tr.sq [1, 2, 7, 9] .fin) .stop)) (.br 8 (.br 1 (Tr.sq [2, 6, 7, 9] .fin) (.br 6 (Tr.sq [1, 2, 7, 9] .fin) .stop)) .stop)))) (.br 8 (.br 1 (Tr.sq [2, 4, 5, 6, 7, 9] .fin) (.br 4 (Tr.sq [5] (.br 1 (Tr.sq [2, 6, 7, 9] .fin) (.br 6 (Tr.sq [1, 2, 7, 9] .fin) .stop))) .stop)) .stop))) (by kernel_rfl) ?_
    try simp only [go_sem]
    try simp only [go_sem]
    refine alt_i ?_ ?_
    · try simp only [go_sem]
      try simp only [go_sem]
      refine alt_i ?_ ?_
      · try simp only [go_sem]
        try simp only [go_sem]
        refine alt_i ?_ ?_
        · try simp only [go_sem]
          try simp only [go_sem]
          refine alt_i ?_ ?_
          · try simp only [go_sem]
            refine call_g ⟨[], [], [(1, 4000, 0)], [], [], true⟩ (by kernel_rfl) (s_l38Tree_ok fuel _ _ _ _ hv5007) (by kernel_rfl) ?_
            try simp only [go_sem]
            have hj := posG_to rfl rfl (s_l38At_j1_ok a1 v5007 _ h)
            refine seq_to hj (.one ⟨_, .frzB 5008 [(7, [])] [] _ _ _ (by (first | rfl | (simp only [go_sem]; rfl))) (by decide) (by rfl) (by (first | rfl | (simp only [go_sem]; rfl))) (by (first | rfl | (simp only [go_sem]; rfl))) (.done _), [], [(1000000500, 1000)], ?_⟩)
            clear hj
            simp only [go_sem]
            all_goals try rfl
          · try simp only [go_sem]
            refine call_g ⟨[], [], [(1, 4000, 0)], [], [], true⟩ (by kernel_rfl) (s_l38Tree_ok fuel _ _ _ _ hv5007) (by kernel_rfl) ?_
            try simp only [go_sem]
            have hj := posG_to rfl rfl (s_l38At_j1_ok a1 v5007 _ h)
            refine seq_to hj (.one ⟨_, .frzB 5008 [(7, [])] [] _ _ _ (by (first | rfl | (simp only [go_sem]; rfl))) (by decide) (by rfl) (by (first | rfl | (simp only [go_sem]; rfl))) (by (first | rfl | (simp only [go_sem]; rfl))) (.done _), [], [(1000000500, 1000)], ?_⟩)
            clear hj
            simp only [go_sem]
            all_goals try rfl
        · try simp only [go_sem]
          refine call_g ⟨[], [], [(1, 4000, 0)], [], [], true⟩ (by kernel_rfl) (s_l38Tree_ok fuel _ _ _ _ hv5007) (by kernel_rfl) ?_
          try simp only [go_sem]
          have hj := posG_to rfl rfl (s_l38At_j1_ok a1 v5007 _ h)
          refine seq_to hj (.one ⟨_, .frzB 5008 [(7, [])] [] _ _ _ (by (first | rfl | (simp only [go_sem]; rfl))) (by decide) (by rfl) (by (first | rfl | (simp only [go_sem]; rfl))) (by (first | rfl | (simp only [go_sem]; rfl))) (.done _), [], [(1000000500, 1000)], ?_⟩)
          clear hj
          simp only [go_sem]
          all_goals try rfl
      · try simp only [go_sem]
        refine call_g ⟨[], [], [(1, 4000, 0)], [], [], true⟩ (by kernel_rfl) (s_l38Tree_ok fuel _ _ _ _ hv5007) (by kernel_rfl) ?_
        try simp only [go_sem]
        have hj := posG_to rfl rfl (s_l38At_j1_ok a1 v5007 _ h)
        refine seq_to hj (.one ⟨_, .frzB 5008 [(7, [])] [] _ _ _ (by (first | rfl | (simp only [go_sem]; rfl))) (by decide) (by rfl) (by (first | rfl | (simp only [go_sem]; rfl))) (by (first | rfl | (simp only [go_sem]; rfl))) (.done _), [], [(1000000500, 1000)], ?_⟩)
        clear hj
        simp only [go_sem]
        all_goals try rfl
    · try simp only [go_sem]
      refine alt_i ?_ ?_
      · try simp only [go_sem]
        try simp only [go_sem]
        refine alt_i ?_ ?_
        · try simp only [go_sem]
          try simp only [go_sem]
          refine alt_i ?_ ?_
          · try simp only [go_sem]
            try simp only [go_sem]
            refine alt_i ?_ ?_
            · try simp only [go_sem]
              refine call_g ⟨[], [], [(1, 4000, 0)], [], [], true⟩ (by kernel_rfl) (s_l38Tree_ok fuel _ _ _ _ hv5007) (by kernel_rfl) ?_
              try simp only [go_sem]
              have hj := posG_to rfl rfl (s_l38At_j1_ok a1 v5007 _ h)
              refine seq_to hj (.one ⟨_, .frzB 5008 [(7, [])] [] _ _ _ (by (first | rfl | (simp only [go_sem]; rfl))) (by decide) (by rfl) (by (first | rfl | (simp only [go_sem]; rfl))) (by (first | rfl | (simp only [go_sem]; rfl))) (.done _), [], [(1000000500, 1000)], ?_⟩)
              clear hj
              simp only [go_sem]
              all_goals try rfl
            · try simp only [go_sem]
              refine call_g ⟨[], [], [(1, 4000, 0)], [], [], true⟩ (by kernel_rfl) (s_l38Tree_ok fuel _ _ _ _ hv5007) (by kernel_rfl) ?_
              try simp only [go_sem]
              have hj := posG_to rfl rfl (s_l38At_j1_ok a1 v5007 _ h)
              refine seq_to hj (.one ⟨_, .frzB 5008 [(7, [])] [] _ _ _ (by (first | rfl | (simp only [go_sem]; rfl))) (by decide) (by rfl) (by (first | rfl | (simp only [go_sem]; rfl))) (by (first | rfl | (simp only [go_sem]; rfl))) (.done _), [], [(1000000500, 1000)], ?_⟩)
              clear hj
              simp only [go_sem]
              all_goals try rfl
          · try simp only [go_sem]
            refine call_g ⟨[], [], [(1, 4000, 0)], [], [], true⟩ (by kernel_rfl) (s_l38Tree_ok fuel _ _ _ _ hv5007) (by kernel_rfl) ?_
            try simp only [go_sem]
            have hj := posG_to rfl rfl (s_l38At_j1_ok a1 v5007 _ h)
            refine seq_to hj (.one ⟨_, .frzB 5008 [(7, [])] [] _ _ _ (by (first | rfl | (simp only [go_sem]; rfl))) (by decide) (by rfl) (by (first | rfl | (simp only [go_sem]; rfl))) (by (first | rfl | (simp only [go_sem]; rfl))) (.done _), [], [(1000000500, 1000)], ?_⟩)
            clear hj
            simp only [go_sem]
            all_goals try rfl
        · try simp only [go_sem]
          refine alt_i ?_ ?_
          · try simp only [go_sem]
            try simp only [go_sem]
            refine alt_i ?_ ?_
            · try simp only [go_sem]
              try simp only [go_sem]
              refine alt_i ?_ ?_
              · try simp only [go_sem]
                refine call_g ⟨[], [], [(1, 4000, 0)], [], [], true⟩ (by kernel_rfl) (s_l38Tree_ok fuel _ _ _ _ hv5007) (by kernel_rfl) ?_
                try simp only [go_sem]
                have hj := posG_to rfl rfl (s_l38At_j1_ok a1 v5007 _ h)
                refine seq_to hj (.one ⟨_, .frzB 5008 [(7, [])] [] _ _ _ (by (first | rfl | (simp only [go_sem]; rfl))) (by decide) (by rfl) (by (first | rfl | (simp only [go_sem]; rfl))) (by (first | rfl | (simp only [go_sem]; rfl))) (.done _), [], [(1000000500, 1000)], ?_⟩)
                clear hj
                simp only [go_sem]
                all_goals try rfl
              · try simp only [go_sem]
                refine call_g ⟨[], [], [(1, 4000, 0)], [], [], true⟩ (by kernel_rfl) (s_l38Tree_ok fuel _ _ _ _ hv5007) (by kernel_rfl) ?_
                try simp only [go_sem]
                have hj := posG_to rfl rfl (s_l38At_j1_ok a1 v5007 _ h)
                refine seq_to hj (.one ⟨_, .frzB 5008 [(7, [])] [] _ _ _ (by (first | rfl | (simp only [go_sem]; rfl))) (by decide) (by rfl) (by (first | rfl | (simp only [go_sem]; rfl))) (by (first | rfl | (simp only [go_sem]; rfl))) (.done _), [], [(1000000500, 1000)], ?_⟩)
                clear hj
                simp only [go_sem]
                all_goals try rfl
            · try simp only [go_sem]
              refine call_g ⟨[], [], [(1, 4000, 0)], [], [], true⟩ (by kernel_rfl) (s_l38Tree_ok fuel _ _ _ _ hv5007) (by kernel_rfl) ?_
              try simp only [go_sem]
              have hj := posG_to rfl rfl (s_l38At_j1_ok a1 v5007 _ h)
              refine seq_to hj (.one ⟨_, .frzB 5008 [(7, [])] [] _ _ _ (by (first | rfl | (simp only [go_sem]; rfl))) (by decide) (by rfl) (by (first | rfl | (simp only [go_sem]; rfl))) (by (first | rfl | (simp only [go_sem]; rfl))) (.done _), [], [(1000000500, 1000)], ?_⟩)
              clear hj
              simp only [go_sem]
              all_goals try rfl
          · try simp only [go_sem]
            try simp only [go_sem]
            refine alt_i ?_ ?_
            · try simp only [go_sem]
              refine call_g ⟨[], [], [(1, 4000, 0)], [], [], true⟩ (by kernel_rfl) (s_l38Tree_ok fuel _ _ _ _ hv5007) (by kernel_rfl) ?_
              try simp only [go_sem]
              have hj := posG_to rfl rfl (s_l38At_j1_ok a1 v5007 _ h)
              refine seq_to hj (.one ⟨_, .frzB 5008 [(7, [])] [] _ _ _ (by (first | rfl | (simp only [go_sem]; rfl))) (by decide) (by rfl) (by (first | rfl | (simp only [go_sem]; rfl))) (by (first | rfl | (simp only [go_sem]; rfl))) (.done _), [], [(1000000500, 1000)], ?_⟩)
              clear hj
              simp only [go_sem]
              all_goals try rfl
            · try simp only [go_sem]
              refine call_g ⟨[], [], [(1, 4000, 0)], [], [], true⟩ (by kernel_rfl) (s_l38Tree_ok fuel _ _ _ _ hv5007) (by kernel_rfl) ?_
              try simp only [go_sem]
              have hj := posG_to rfl rfl (s_l38At_j1_ok a1 v5007 _ h)
              refine seq_to hj (.one ⟨_, .frzB 5008 [(7, [])] [] _ _ _ (by (first | rfl | (simp only [go_sem]; rfl))) (by decide) (by rfl) (by (first | rfl | (simp only [go_sem]; rfl))) (by (first | rfl | (simp only [go_sem]; rfl))) (.done _), [], [(1000000500, 1000)], ?_⟩)
              clear hj
              simp only [go_sem]
              all_goals try rfl
      · try simp only [go_sem]
        try simp only [go_sem]
        refine alt_i ?_ ?_
        · try simp only [go_sem]
          refine call_g ⟨[], [], [(1, 4000, 0)], [], [], true⟩ (by kernel_rfl) (s_l38Tree_ok fuel _ _ _ _ hv5007) (by kernel_rfl) ?_
          try simp only [go_sem]
          have hj := posG_to rfl rfl (s_l38At_j1_ok a1 v5007 _ h)
          refine seq_to hj (.one ⟨_, .frzB 5008 [(7, [])] [] _ _ _ (by (first | rfl | (simp only [go_sem]; rfl))) (by decide) (by rfl) (by (first | rfl | (simp only [go_sem]; rfl))) (by (first | rfl | (simp only [go_sem]; rfl))) (.done _), [], [(1000000500, 1000)], ?_⟩)
          clear hj
          simp only [go_sem]
          all_goals try rfl
        · try simp only [go_sem]
          try simp only [go_sem]
          refine alt_i ?_ ?_
          · try simp only [go_sem]
            refine call_g ⟨[], [], [(1, 4000, 0)], [], [], true⟩ (by kernel_rfl) (s_l38Tree_ok fuel _ _ _ _ hv5007) (by kernel_rfl) ?_
            try simp only [go_sem]
            have hj := posG_to rfl rfl (s_l38At_j1_ok a1 v5007 _ h)
            refine seq_to hj (.one ⟨_, .frzB 5008 [(7, [])] [] _ _ _ (by (first | rfl | (simp only [go_sem]; rfl))) (by decide) (by rfl) (by (first | rfl | (simp only [go_sem]; rfl))) (by (first | rfl | (simp only [go_sem]; rfl))) (.done _), [], [(1000000500, 1000)], ?_⟩)
            clear hj
            simp only [go_sem]
            all_goals try rfl
          · try simp only [go_sem]
            refine call_g ⟨[], [], [(1, 4000, 0)], [], [], true⟩ (by kernel_rfl) (s_l38Tree_ok fuel _ _ _ _ hv5007) (by kernel_rfl) ?_
            try simp only [go_sem]
            have hj := posG_to rfl rfl (s_l38At_j1_ok a1 v5007 _ h)
            refine seq_to hj (.one ⟨_, .frzB 5008 [(7, [])] [] _ _ _ (by (first | rfl | (simp only [go_sem]; rfl))) (by decide) (by rfl) (by (first | rfl | (simp only [go_sem]; rfl))) (by (first | rfl | (simp only [go_sem]; rfl))) (.done _), [], [(1000000500, 1000)], ?_⟩)
            clear hj
            simp only [go_sem]
            all_goals try rfl
theorem s_l08Kind_j1_ok (a0 : Core) (p0_0 : Bool) (r : Int) (h : s_l08Kind_j1 a0 p0_0 = some r) : posF Try.prog Try.f42 [1, 0, 1, 0, 1, 1, 1, 1, 1, 0, 0, 1] (.int .i64 r) ⟨[(0, .rop [.int .i64 a0.kind, .int .i64 a0.value, .ro (List.map i64D a0.data), .ro (List.map Core.ds a0.kids)] 0), (73, .bool p0_0)], [], []⟩ := by
  unfold s_l08Kind_j1 at h
  refine posF_of rfl rfl ?_
  try simp only [go_sem]
  refine cond_i (fun hb14 => ?_) (fun hb14 => ?_)
  · replace h := ifT (c := p0_0) hb14 h
    try simp only [go_sem]
    replace h := Option.some.inj h
    obtain rfl := h
    simp only [go_sem]
  · replace h := ifF (c := p0_0) hb14 h
    try simp only [go_sem]
    refine seq_go ?_
    try simp only [go_sem]
    replace h := bindE h
    obtain ⟨v21004, hv21004, h⟩ := h
    refine idx_m hv21004 (Core.ds_len _) ?_
    try simp only [go_sem]
    refine cond_i (fun hb15 => ?_) (fun hb15 => ?_)
    · replace h := ifT (c := (decide (v21004.kind = 11))) hb15 h
      try simp only [go_sem]
      replace h := Option.some.inj h
      obtain rfl := h
      simp only [go_sem]
    · replace h := ifF (c := (decide (v21004.kind = 11))) hb15 h
      try simp only [go_sem]
      refine seq_go ?_
      try simp only [go_sem]
      replace h := Option.some.inj h
      obtain rfl := h
      simp only [go_sem]
theorem s_l08Kind_ok (a0 : Core) (r : Int) (h : s_l08Kind a0 = some r) : AC Try.prog 42 [.rop (Core.avs a0) 0] (.int .i64 r) := by
  unfold s_l08Kind at h
  refine ac_fn mixed Try.func42 rfl rfl rfl (by kernel_rfl) (by kernel_rfl) ?_
  try simp only [go_sem]
  refine cond_i (fun hb1 => ?_) (fun hb1 => ?_)
  · replace h := ifT (c := (decide (a0.kind = 5))) hb1 h
    try simp only [go_sem]
    replace h := bindE h
    obtain ⟨v4004, hv4004, h⟩ := h
    refine idx_m hv4004 (Core.ds_len _) ?_
    try simp only [go_sem]
    refine cond_i (fun hb2 => ?_) (fun hb2 => ?_)
    · replace h := ifT (c := (decide (v4004.kind = 4))) hb2 h
      try simp only [go_sem]
      replace h := Option.some.inj h
      obtain rfl := h
      simp only [go_sem]
    · replace h := ifF (c := (decide (v4004.kind = 4))) hb2 h
      try simp only [go_sem]
      refine cond_i (fun hb3 => ?_) (fun hb3 => ?_)
      · replace h := ifT (c := (decide (v4004.kind = 11))) hb3 h
        try simp only [go_sem]
        replace h := Option.some.inj h
        obtain rfl := h
        simp only [go_sem]
      · replace h := ifF (c := (decide (v4004.kind = 11))) hb3 h
        try simp only [go_sem]
        refine seq_go ?_
        try simp only [go_sem]
        replace h := Option.some.inj h
        obtain rfl := h
        simp only [go_sem]
  · replace h := ifF (c := (decide (a0.kind = 5))) hb1 h
    try simp only [go_sem]
    refine cond_i (fun hb4 => ?_) (fun hb4 => ?_)
    · replace h := ifT (c := (decide (a0.kind = 3))) hb4 h
      try simp only [go_sem]
      replace h := bindE h
      obtain ⟨v10004, hv10004, h⟩ := h
      refine idx_m hv10004 (Core.ds_len _) ?_
      try simp only [go_sem]
      refine cond_i (fun hb5 => ?_) (fun hb5 => ?_)
      · replace h := ifT (c := (decide (v10004.kind = 11))) hb5 h
        try simp only [go_sem]
        replace h := Option.some.inj h
        obtain rfl := h
        simp only [go_sem]
      · replace h := ifF (c := (decide (v10004.kind = 11))) hb5 h
        try simp only [go_sem]
        refine seq_go ?_
        try simp only [go_sem]
        replace h := bindE h
        obtain ⟨v12004, hv12004, h⟩ := h
        refine idx_m hv12004 (Core.ds_len _) ?_
        try simp only [go_sem]
        refine cond_i (fun hb6 => ?_) (fun hb6 => ?_)
        · replace h := ifT (c := (decide (v12004.kind = 2))) hb6 h
          try simp only [go_sem]
          replace h := bindE h
          obtain ⟨v13004, hv13004, h⟩ := h
          refine idx_m hv13004 (Core.ds_len _) ?_
          try simp only [go_sem]
          refine cond_i (fun hb7 => ?_) (fun hb7 => ?_)
          · replace h := ifT (c := (decide (v13004.kind = 2))) hb7 h
            try simp only [go_sem]
            replace h := Option.some.inj h
            obtain rfl := h
            simp only [go_sem]
          · replace h := ifF (c := (decide (v13004.kind = 2))) hb7 h
            try simp only [go_sem]
            refine cond_i (fun hb8 => ?_) (fun hb8 => ?_)
            · replace h := ifT (c := (decide (v13004.kind = 11))) hb8 h
              try simp only [go_sem]
              replace h := Option.some.inj h
              obtain rfl := h
              simp only [go_sem]
            · replace h := ifF (c := (decide (v13004.kind = 11))) hb8 h
              try simp only [go_sem]
              refine seq_go ?_
              try simp only [go_sem]
              replace h := Option.some.inj h
              obtain rfl := h
              simp only [go_sem]
        · replace h := ifF (c := (decide (v12004.kind = 2))) hb6 h
          try simp only [go_sem]
          refine seq_go ?_
          try simp only [go_sem]
          replace h := Option.some.inj h
          obtain rfl := h
          simp only [go_sem]
    · replace h := ifF (c := (decide (a0.kind = 3))) hb4 h
      try simp only [go_sem]
      refine cond_i (fun hb9 => ?_) (fun hb9 => ?_)
      · replace h := ifT (c := (decide (a0.kind = 9))) hb9 h
        try simp only [go_sem]
        refine draw_i [] .fin (by kernel_rfl) ?_
        try simp only [go_sem]
        replace h := bindE h
        obtain ⟨v19004, hv19004, h⟩ := h
        refine idx_m hv19004 (Core.ds_len _) ?_
        try simp only [go_sem]
        refine cond_i (fun hb10 => ?_) (fun hb10 => ?_)
        · replace h := ifT (c := (decide (v19004.kind = 8))) hb10 h
          try simp only [go_sem]
          replace h := bindE h
          obtain ⟨v19013, hv19013, h⟩ := h
          refine idx_m hv19013 (Core.ds_len _) ?_
          try simp only [go_sem]
          have hj := posF_to rfl rfl (s_l08Kind_j1_ok a0 (decide (v19013.value < ((List.length a0.data : Nat) : Int))) _ h)
          refine seq_to hj (.one ⟨_, .done _, [], [], ?_⟩)
          clear hj
          try simp only [go_sem]
        · replace h := ifF (c := (decide (v19004.kind = 8))) hb10 h
          try simp only [go_sem]
          have hj := posF_to rfl rfl (s_l08Kind_j1_ok a0 false _ h)
          refine seq_to hj (.one ⟨_, .done _, [], [], ?_⟩)
          clear hj
          try simp only [go_sem]
      · replace h := ifF (c := (decide (a0.kind = 9))) hb9 h
        try simp only [go_sem]
        refine cond_i (fun hb11 => ?_) (fun hb11 => ?_)
        · replace h := ifT (c := (decide (a0.kind = 10))) hb11 h
          try simp only [go_sem]
          replace h := bindE h
          obtain ⟨v24004, hv24004, h⟩ := h
          refine idx_m hv24004 (Core.ds_len _) ?_
          try simp only [go_sem]
          refine cond_i (fun hb12 => ?_) (fun hb12 => ?_)
          · replace h := ifT (c := (decide (v24004.kind = 2))) hb12 h
            try simp only [go_sem]
            replace h := Option.some.inj h
            obtain rfl := h
            simp only [go_sem]
          · replace h := ifF (c := (decide (v24004.kind = 2))) hb12 h
            try simp only [go_sem]
            refine cond_i (fun hb13 => ?_) (fun hb13 => ?_)
            · replace h := ifT (c := (decide (v24004.kind = 11))) hb13 h
              try simp only [go_sem]
              replace h := Option.some.inj h
              obtain rfl := h
              simp only [go_sem]
            · replace h := ifF (c := (decide (v24004.kind = 11))) hb13 h
              try simp only [go_sem]
              refine seq_go ?_
              try simp only [go_sem]
              replace h := Option.some.inj h
              obtain rfl := h
              simp only [go_sem]
        · replace h := ifF (c := (decide (a0.kind = 10))) hb11 h
          try simp only [go_sem]
          refine seq_go ?_
          try simp only [go_sem]
          replace h := Option.some.inj h
          obtain rfl := h
          simp only [go_sem]
theorem s_l38Kind_l2_all (n : Nat) : (∀ (a0 : L38T) (p1_0 : List Core) (p1_1 : Int) (r : Int), s_l38Kind_l2 n a0 p1_0 p1_1 = some r → posF Try.prog Try.f20 [1, 1, 0, 1, 0] (.int .i64 r) ⟨[(0, .rop [.int .i64 a0.kind, .int .i64 a0.value, .ro (List.map i64D a0.data), .str a0.label, .ro (List.map L38T.ds a0.kids)] 0), (3, .box 1000001500 0), (4, .int .i64 p1_1)], [(1000001000, some ⟨List.map Core.ds p1_0, some 4, 0, false⟩)], [(1000001500, some [.int .i64 a0.kind, .int .i64 a0.value, .ro (List.map i64D a0.data), .own 1000001000])]⟩) := by
  induction n with
  | zero => exact ((fun _ _ _ _ h => by rw [s_l38Kind_l2] at h; cases h))
  | succ n ih =>
    have ih0 := ih
    · intro a0 p1_0 p1_1 r h
      rw [s_l38Kind_l2] at h
      refine posF_of rfl rfl ?_
      try simp only [go_sem]
      refine loop_i ?_
      try simp only [go_sem]
      refine cond_i (fun hb1 => ?_) (fun hb1 => ?_)
      · replace h := ifT (c := (decide (p1_1 < ((List.length a0.kids : Nat) : Int)))) hb1 h
        try simp only [go_sem]
        refine seq_go ?_
        try simp only [go_sem]
        replace h := bindE h
        obtain ⟨v6007, hv6007, h⟩ := h
        replace h := bindE h
        obtain ⟨v6015, hv6015, h⟩ := h
        replace h := bindE h
        obtain ⟨v6021, hv6021, h⟩ := h
        replace h := bindE h
        obtain ⟨v6022, hv6022, h⟩ := h
        replace h := bindE h
        obtain ⟨v6023_12, hv6023_12, h⟩ := h
        refine draw_i [false, false, false, false, false, false, false, false, false, false, false, false, false, false, false, false, false, false, false, false, false, true, true, true, true, true] (Tr.sq [21, 22, 24] (.br 23 (Tr.sq [25] .fin) (.br 25 (Tr.sq [23] .fin) .stop))) (by kernel_rfl) ?_
        try simp only [go_sem]
        refine idx_m hv6007 (L38T.ds_len _) ?_
        try simp only [go_sem]
        refine idx_m hv6015 (L38T.ds_len _) ?_
        try simp only [go_sem]
        have hq_ := app_some hv6021
        obtain ⟨hv6021a, hv6021b⟩ := hq_
        refine zed_i false ?_
        try simp only [go_sem]
        refine and_i (by refine ⟨?_, ?_⟩ <;> (try simp only [List.length_map, List.length_append, List.length_cons, List.length_nil] at *) <;> (try unfold maxLen) <;> omega) ?_
        try simp only [go_sem]
        refine row_i (List.map Core.ds v6021) (by rw [← hv6021b]; simp only [List.map_append, List.map_cons, List.map_nil, List.nil_append, List.append_nil, go_sem, Core.ds_eq]) ?_
        try simp only [go_sem]
        refine idx_m hv6022 (Core.ds_len _) ?_
        try simp only [go_sem]
        try simp only [go_sem]
        refine alt_i ?_ ?_
        · try simp only [go_sem]
          refine opt_i (row_m hv6022) ?_
          try simp only [go_sem]
          refine row_i (List.map Core.ds v6023_12) (by rw [← set1_some hv6023_12]; simp only [List.map_set, go_sem, Core.ds_eq]) ?_
          try simp only [go_sem]
          refine seq_go ?_
          try simp only [go_sem]
          have hj := posF_to rfl rfl (ih0 a0 v6023_12 (IntKind.i64.wrap (p1_1 + 1)) _ h)
          refine lp_to hj (.one ⟨_, .done _, [(1000001000, 96336)], [(1000001500, 1000001500)], ?_⟩)
          clear hj
          try simp only [go_sem]
        · try simp only [go_sem]
          refine opt_i (row_m hv6022) ?_
          try simp only [go_sem]
          refine row_i (List.map Core.ds v6023_12) (by rw [← set1_some hv6023_12]; simp only [List.map_set, go_sem, Core.ds_eq]) ?_
          try simp only [go_sem]
          refine seq_go ?_
          try simp only [go_sem]
          have hj := posF_to rfl rfl (ih0 a0 v6023_12 (IntKind.i64.wrap (p1_1 + 1)) _ h)
          refine lp_to hj (.one ⟨_, .done _, [(1000001000, 96336)], [(1000001500, 1000001500)], ?_⟩)
          clear hj
          try simp only [go_sem]
      · replace h := ifF (c := (decide (p1_1 < ((List.length a0.kids : Nat) : Int)))) hb1 h
        try simp only [go_sem]
        refine seq_go ?_
        try simp only [go_sem]
        replace h := bindE h
        obtain ⟨v7000, hv7000, h⟩ := h
        refine call_i (s_l08Kind_ok _ _ hv7000) ?_
        try simp only [go_sem]
        refine seq_go ?_
        try simp only [go_sem]
        replace h := Option.some.inj h
        obtain rfl := h
        simp only [go_sem]
theorem s_l38Kind_l2_ok (n : Nat) : (∀ (a0 : L38T) (p1_0 : List Core) (p1_1 : Int) (r : Int), s_l38Kind_l2 n a0 p1_0 p1_1 = some r → posF Try.prog Try.f20 [1, 1, 0, 1, 0] (.int .i64 r) ⟨[(0, .rop [.int .i64 a0.kind, .int .i64 a0.value, .ro (List.map i64D a0.data), .str a0.label, .ro (List.map L38T.ds a0.kids)] 0), (3, .box 1000001500 0), (4, .int .i64 p1_1)], [(1000001000, some ⟨List.map Core.ds p1_0, some 4, 0, false⟩)], [(1000001500, some [.int .i64 a0.kind, .int .i64 a0.value, .ro (List.map i64D a0.data), .own 1000001000])]⟩) := (s_l38Kind_l2_all n)

theorem s_l38Kind_ok (a0 : L38T) (r : Int) (h : s_l38Kind a0 = some r) : AC Try.prog 20 [.rop (L38T.avs a0) 0] (.int .i64 r) := by
  unfold s_l38Kind at h
  refine ac_fn mixed Try.func20 rfl rfl rfl (by kernel_rfl) (by kernel_rfl) ?_
  try simp only [go_sem]
  refine draw_i [false, false, false, false, false, false, false, false, false, false, false, false, false, false, true] (Tr.sq [14] .fin) (by kernel_rfl) ?_
  try simp only [go_sem]
  refine seq_go ?_
  try simp only [go_sem]
  have hj := posF_to rfl rfl (s_l38Kind_l2_ok fuel a0 [] 0 _ h)
  refine loop_to hj (.one ⟨_, .cell 2013 3 2000000000 (some 4) false _ (by simp only [go_sem]; rfl) (by rfl) (by simp only [go_sem]) (.done _), [(1000001000, 2000000000)], [(1000001500, 2013)], ?_⟩)
  clear hj
  simp only [go_sem]
  all_goals try rfl
theorem s_l38Name_j1_ok (a0 : L38T) (p0_0 : Bool) (r : ByteArray) (h : s_l38Name_j1 a0 p0_0 = some r) : posF Try.prog Try.f21 [1, 0, 1] (.str r) ⟨[(0, .rop [.int .i64 a0.kind, .int .i64 a0.value, .ro (List.map i64D a0.data), .str a0.label, .ro (List.map L38T.ds a0.kids)] 0), (17, .bool p0_0)], [], []⟩ := by
  unfold s_l38Name_j1 at h
  refine posF_of rfl rfl ?_
  try simp only [go_sem]
  refine cond_i (fun hb2 => ?_) (fun hb2 => ?_)
  · replace h := ifT (c := p0_0) hb2 h
    try simp only [go_sem]
    refine draw_i [] .fin (by kernel_rfl) ?_
    try simp only [go_sem]
    replace h := bindE h
    obtain ⟨v3004, hv3004, h⟩ := h
    refine idx_m hv3004 (L38T.ds_len _) ?_
    try simp only [go_sem]
    replace h := bindE h
    obtain ⟨v3007, hv3007, h⟩ := h
    have hq_ := sapp_some hv3007
    obtain ⟨hv3007a, hv3007b⟩ := hq_
    refine and_i hv3007a ?_
    rw [hv3007b]
    try simp only [go_sem]
    replace h := bindE h
    obtain ⟨v3012, hv3012, h⟩ := h
    refine idx_m hv3012 (L38T.ds_len _) ?_
    try simp only [go_sem]
    replace h := bindE h
    obtain ⟨v3015, hv3015, h⟩ := h
    have hq_ := sapp_some hv3015
    obtain ⟨hv3015a, hv3015b⟩ := hq_
    refine and_i hv3015a ?_
    rw [hv3015b]
    try simp only [go_sem]
    refine seq_go ?_
    try simp only [go_sem]
    replace h := Option.some.inj h
    obtain rfl := h
    simp only [go_sem]
  · replace h := ifF (c := p0_0) hb2 h
    try simp only [go_sem]
    refine seq_go ?_
    try simp only [go_sem]
    replace h := bindE h
    obtain ⟨v4004, hv4004, h⟩ := h
    refine idx_m hv4004 (L38T.ds_len _) ?_
    try simp only [go_sem]
    replace h := Option.some.inj h
    obtain rfl := h
    simp only [go_sem]
theorem s_l38Name_ok (a0 : L38T) (r : ByteArray) (h : s_l38Name a0 = some r) : AC Try.prog 21 [.rop (L38T.avs a0) 0] (.str r) := by
  unfold s_l38Name at h
  refine ac_fn mixed Try.func21 rfl rfl rfl (by kernel_rfl) (by kernel_rfl) ?_
  try simp only [go_sem]
  refine cond_i (fun hb1 => ?_) (fun hb1 => ?_)
  · replace h := ifT (c := (decide (a0.kind = 3))) hb1 h
    try simp only [go_sem]
    replace h := bindE h
    obtain ⟨v2010, hv2010, h⟩ := h
    refine idx_m hv2010 (L38T.ds_len _) ?_
    try simp only [go_sem]
    have hj := posF_to rfl rfl (s_l38Name_j1_ok a0 (decide (v2010.kind = 2)) _ h)
    refine seq_to hj (.one ⟨_, .done _, [], [], ?_⟩)
    clear hj
    try simp only [go_sem]
  · replace h := ifF (c := (decide (a0.kind = 3))) hb1 h
    try simp only [go_sem]
    have hj := posF_to rfl rfl (s_l38Name_j1_ok a0 false _ h)
    refine seq_to hj (.one ⟨_, .done _, [], [], ?_⟩)
    clear hj
    try simp only [go_sem]
end Go.Proofs.Ytgigfdghecdlgaa.Ab
