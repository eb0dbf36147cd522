/-
  The functions do what their models say. Printed by wip/ab/gen.py.
-/
import Derived.Test.YtffokcfdkkikmaaModE
import Derived.Test.YtffokcfdkkikmaaTi2
import Derived.Test.YtffokcfdkkikmaaWlkI
namespace Go.Proofs.Ytffokcfdkkikmaa.Ab
set_option linter.unusedVariables false
set_option linter.unusedSimpArgs false
set_option maxRecDepth 20000
set_option maxHeartbeats 4000000
open Go.RowKit

theorem s_l08Left_all (n : Nat) : (∀ (a0 : Core) (a1 : Int) (r : Int), s_l08Left n a0 a1 = some r → AC Try.prog 227 [.rop (Core.avs a0) 0, .int .i64 a1] (.int .i64 r)) ∧
    (∀ (a0 : Core) (p0_0 : Int) (p0_1 : Int) (r : Int), s_l08Left_l3 n a0 p0_0 p0_1 = some r → posF Try.prog Try.f227 [1, 1, 0, 1, 0] (.int .i64 r) ⟨[(0, .rop [.int .i64 a0.kind, .int .i64 a0.value, .ro (List.map i64D a0.data), .ro (List.map Core.ds a0.kids)] 0), (1, .int .i64 p0_0), (5, .int .i64 p0_1)], [], []⟩) ∧
    (∀ (a0 : Core) (p0_0 : Int) (p0_1 : Int) (p1_0 : Bool) (r : Int), s_l08Left_j4 n a0 p0_0 p0_1 p1_0 = some r → posF Try.prog Try.f227 [1, 1, 0, 1, 0, 0, 0, 1] (.int .i64 r) ⟨[(0, .rop [.int .i64 a0.kind, .int .i64 a0.value, .ro (List.map i64D a0.data), .ro (List.map Core.ds a0.kids)] 0), (1, .int .i64 p0_0), (5, .int .i64 p0_1), (18, .bool p1_0)], [], []⟩) := by
  induction n with
  | zero => exact ⟨(fun _ _ _ h => by rw [s_l08Left] at h; cases h), (fun _ _ _ _ h => by rw [s_l08Left_l3] at h; cases h), (fun _ _ _ _ _ h => by rw [s_l08Left_j4] at h; cases h)⟩
  | succ n ih =>
    obtain ⟨ih0, ih1, ih2⟩ := ih
    refine ⟨?_, ?_, ?_⟩
    · intro a0 a1 r h
      rw [s_l08Left] at h
      refine ac_fn mixed Try.func227 rfl rfl rfl (by kernel_rfl) (by kernel_rfl) ?_
      try simp only [go_sem, Nat.reduceEqDiff, reduceIte, Nat.reduceAdd, Nat.reduceMul, Nat.reduceLeDiff, Nat.reduceLT]
      have hj := posF_to rfl rfl (ih1 a0 (IntKind.i64.wrap (a1 - 1)) 0 _ h)
      refine loop_to hj (.one ⟨_, .done _, [], [], ?_⟩)
      clear hj
      try simp only [go_sem, Nat.reduceEqDiff, reduceIte, Nat.reduceAdd, Nat.reduceMul, Nat.reduceLeDiff, Nat.reduceLT]
    · intro a0 p0_0 p0_1 r h
      rw [s_l08Left_l3] at h
      refine posF_of rfl rfl ?_
      try simp only [go_sem, Nat.reduceEqDiff, reduceIte, Nat.reduceAdd, Nat.reduceMul, Nat.reduceLeDiff, Nat.reduceLT]
      refine loop_i ?_
      try simp only [go_sem, Nat.reduceEqDiff, reduceIte, Nat.reduceAdd, Nat.reduceMul, Nat.reduceLeDiff, Nat.reduceLT]
      refine cond_i (fun hb1 => ?_) (fun hb1 => ?_)
      · replace h := ifT (c := (decide (p0_1 < ((List.length a0.kids : Nat) : Int)))) hb1 h
        try simp only [go_sem, Nat.reduceEqDiff, reduceIte, Nat.reduceAdd, Nat.reduceMul, Nat.reduceLeDiff, Nat.reduceLT]
        have hj := posF_to rfl rfl (ih2 a0 p0_0 p0_1 (decide (0 ≤ p0_0)) _ h)
        refine seq_to hj (.one ⟨_, .done _, [], [], ?_⟩)
        clear hj
        try simp only [go_sem, Nat.reduceEqDiff, reduceIte, Nat.reduceAdd, Nat.reduceMul, Nat.reduceLeDiff, Nat.reduceLT]
      · replace h := ifF (c := (decide (p0_1 < ((List.length a0.kids : Nat) : Int)))) hb1 h
        try simp only [go_sem, Nat.reduceEqDiff, reduceIte, Nat.reduceAdd, Nat.reduceMul, Nat.reduceLeDiff, Nat.reduceLT]
        have hj := posF_to rfl rfl (ih2 a0 p0_0 p0_1 false _ h)
        refine seq_to hj (.one ⟨_, .done _, [], [], ?_⟩)
        clear hj
        try simp only [go_sem, Nat.reduceEqDiff, reduceIte, Nat.reduceAdd, Nat.reduceMul, Nat.reduceLeDiff, Nat.reduceLT]
    · intro a0 p0_0 p0_1 p1_0 r h
      rw [s_l08Left_j4] at h
      refine posF_of rfl rfl ?_
      try simp only [go_sem, Nat.reduceEqDiff, reduceIte, Nat.reduceAdd, Nat.reduceMul, Nat.reduceLeDiff, Nat.reduceLT]
      refine cond_i (fun hb2 => ?_) (fun hb2 => ?_)
      · replace h := ifT (c := p1_0) hb2 h
        try simp only [go_sem, Nat.reduceEqDiff, reduceIte, Nat.reduceAdd, Nat.reduceMul, Nat.reduceLeDiff, Nat.reduceLT]
        refine seq_go ?_
        try simp only [go_sem, Nat.reduceEqDiff, reduceIte, Nat.reduceAdd, Nat.reduceMul, Nat.reduceLeDiff, Nat.reduceLT]
        replace h := bindE h
        obtain ⟨v6005, hv6005, h⟩ := h
        refine idx_m hv6005 (Core.ds_len _) ?_
        try simp only [go_sem, Nat.reduceEqDiff, reduceIte, Nat.reduceAdd, Nat.reduceMul, Nat.reduceLeDiff, Nat.reduceLT]
        replace h := bindE h
        obtain ⟨v6007, hv6007, h⟩ := h
        refine call_i (ih0 _ _ _ hv6007) ?_
        try simp only [go_sem, Nat.reduceEqDiff, reduceIte, Nat.reduceAdd, Nat.reduceMul, Nat.reduceLeDiff, Nat.reduceLT]
        refine seq_go ?_
        try simp only [go_sem, Nat.reduceEqDiff, reduceIte, Nat.reduceAdd, Nat.reduceMul, Nat.reduceLeDiff, Nat.reduceLT]
        have hj := posF_to rfl rfl (ih1 a0 v6007 (IntKind.i64.wrap (p0_1 + 1)) _ h)
        refine lp_to hj (.one ⟨_, .done _, [], [], ?_⟩)
        clear hj
        try simp only [go_sem, Nat.reduceEqDiff, reduceIte, Nat.reduceAdd, Nat.reduceMul, Nat.reduceLeDiff, Nat.reduceLT]
      · replace h := ifF (c := p1_0) hb2 h
        try simp only [go_sem, Nat.reduceEqDiff, reduceIte, Nat.reduceAdd, Nat.reduceMul, Nat.reduceLeDiff, Nat.reduceLT]
        refine seq_go ?_
        try simp only [go_sem, Nat.reduceEqDiff, reduceIte, Nat.reduceAdd, Nat.reduceMul, Nat.reduceLeDiff, Nat.reduceLT]
        replace h := Option.some.inj h
        obtain rfl := h
        simp only [go_sem, Nat.reduceEqDiff, reduceIte, Nat.reduceAdd, Nat.reduceMul, Nat.reduceLeDiff, Nat.reduceLT]
theorem s_l08Left_ok (n : Nat) : (∀ (a0 : Core) (a1 : Int) (r : Int), s_l08Left n a0 a1 = some r → AC Try.prog 227 [.rop (Core.avs a0) 0, .int .i64 a1] (.int .i64 r)) := (s_l08Left_all n).1
theorem s_l08Left_l3_ok (n : Nat) : (∀ (a0 : Core) (p0_0 : Int) (p0_1 : Int) (r : Int), s_l08Left_l3 n a0 p0_0 p0_1 = some r → posF Try.prog Try.f227 [1, 1, 0, 1, 0] (.int .i64 r) ⟨[(0, .rop [.int .i64 a0.kind, .int .i64 a0.value, .ro (List.map i64D a0.data), .ro (List.map Core.ds a0.kids)] 0), (1, .int .i64 p0_0), (5, .int .i64 p0_1)], [], []⟩) := (s_l08Left_all n).2.1
theorem s_l08Left_j4_ok (n : Nat) : (∀ (a0 : Core) (p0_0 : Int) (p0_1 : Int) (p1_0 : Bool) (r : Int), s_l08Left_j4 n a0 p0_0 p0_1 p1_0 = some r → posF Try.prog Try.f227 [1, 1, 0, 1, 0, 0, 0, 1] (.int .i64 r) ⟨[(0, .rop [.int .i64 a0.kind, .int .i64 a0.value, .ro (List.map i64D a0.data), .ro (List.map Core.ds a0.kids)] 0), (1, .int .i64 p0_0), (5, .int .i64 p0_1), (18, .bool p1_0)], [], []⟩) := (s_l08Left_all n).2.2

theorem s_l08Fits_ok (a0 : Core) (r : Bool) (h : s_l08Fits a0 = some r) : AC Try.prog 150 [.rop (Core.avs a0) 0] (.bool r) := by
  unfold s_l08Fits at h
  refine ac_fn mixed Try.func150 rfl rfl rfl (by kernel_rfl) (by kernel_rfl) ?_
  try simp only [go_sem, Nat.reduceEqDiff, reduceIte, Nat.reduceAdd, Nat.reduceMul, Nat.reduceLeDiff, Nat.reduceLT]
  replace h := bindE h
  obtain ⟨v2001, hv2001, h⟩ := h
  refine call_i (s_l08Left_ok fuel _ _ _ hv2001) ?_
  try simp only [go_sem, Nat.reduceEqDiff, reduceIte, Nat.reduceAdd, Nat.reduceMul, Nat.reduceLeDiff, Nat.reduceLT]
  refine cond_i (fun hb1 => ?_) (fun hb1 => ?_)
  · replace h := ifT (c := (decide (0 ≤ v2001))) hb1 h
    try simp only [go_sem, Nat.reduceEqDiff, reduceIte, Nat.reduceAdd, Nat.reduceMul, Nat.reduceLeDiff, Nat.reduceLT]
    replace h := bindE h
    obtain ⟨v2005, hv2005, h⟩ := h
    refine call_i (s_l06Depth_ok fuel _ _ hv2005) ?_
    try simp only [go_sem, Nat.reduceEqDiff, reduceIte, Nat.reduceAdd, Nat.reduceMul, Nat.reduceLeDiff, Nat.reduceLT]
    refine seq_go ?_
    try simp only [go_sem, Nat.reduceEqDiff, reduceIte, Nat.reduceAdd, Nat.reduceMul, Nat.reduceLeDiff, Nat.reduceLT]
    replace h := Option.some.inj h
    obtain rfl := h
    simp only [go_sem, Nat.reduceEqDiff, reduceIte, Nat.reduceAdd, Nat.reduceMul, Nat.reduceLeDiff, Nat.reduceLT]
  · replace h := ifF (c := (decide (0 ≤ v2001))) hb1 h
    try simp only [go_sem, Nat.reduceEqDiff, reduceIte, Nat.reduceAdd, Nat.reduceMul, Nat.reduceLeDiff, Nat.reduceLT]
    refine seq_go ?_
    try simp only [go_sem, Nat.reduceEqDiff, reduceIte, Nat.reduceAdd, Nat.reduceMul, Nat.reduceLeDiff, Nat.reduceLT]
    replace h := Option.some.inj h
    obtain rfl := h
    simp only [go_sem, Nat.reduceEqDiff, reduceIte, Nat.reduceAdd, Nat.reduceMul, Nat.reduceLeDiff, Nat.reduceLT]
theorem s_l08Erase_all (n : Nat) : (∀ (a0 : Core) (r : Core × Int), s_l08Erase n a0 = some r → AG Try.prog 82 [.rop [.int .i64 a0.kind, .int .i64 a0.value, .ro (List.map i64D a0.data), .ro (List.map Core.ds a0.kids)] 0] [] [] (.tup [.agg [.int .i64 r.1.kind, .int .i64 r.1.value, .own 1501, .own 1502], .int .i64 r.2]) [(1501, ⟨List.map i64D r.1.data, none, 0⟩), (1502, ⟨List.map Core.ds r.1.kids, none, 0⟩)] []) ∧
    (∀ (a0 : Core) (v2012 : (List Int)) (p1_0 : List Core) (p1_1 : Int) (r : Core × Int), s_l08Erase_l2 n a0 v2012 p1_0 p1_1 = some r → posG Try.prog Try.f82 [1, 1, 0, 1, 0] (.tup [.agg [.int .i64 r.1.kind, .int .i64 r.1.value, .own 1501, .own 1502], .int .i64 r.2]) [(1501, ⟨List.map i64D r.1.data, none, 0⟩), (1502, ⟨List.map Core.ds r.1.kids, none, 0⟩)] [] ⟨[(0, .rop [.int .i64 a0.kind, .int .i64 a0.value, .ro (List.map i64D a0.data), .ro (List.map Core.ds a0.kids)] 0), (2, .box 1000001500 0), (4, .box 1000001501 0), (5, .int .i64 p1_1)], [(1000001000, some ⟨List.map i64D v2012, some 1, 0⟩), (1000001001, some ⟨List.map Core.ds p1_0, some 4, 0⟩)], [(1000001500, some [.int .i64 0, .int .i64 0, .nils, .nils]), (1000001501, some [.int .i64 a0.kind, .int .i64 a0.value, .own 1000001000, .own 1000001001])]⟩) := by
  induction n with
  | zero => exact ⟨(fun _ _ h => by rw [s_l08Erase] at h; cases h), (fun _ _ _ _ _ h => by rw [s_l08Erase_l2] at h; cases h)⟩
  | succ n ih =>
    obtain ⟨ih0, ih1⟩ := ih
    refine ⟨?_, ?_⟩
    · intro a0 r h
      rw [s_l08Erase] at h
      refine ag_fn mixed Try.func82 rfl rfl rfl (by kernel_rfl) (by kernel_rfl) ?_
      try simp only [go_sem, Nat.reduceEqDiff, reduceIte, Nat.reduceAdd, Nat.reduceMul, Nat.reduceLeDiff, Nat.reduceLT]
      refine draw_i [false, false, false, false, false, false, false, false, false, false, false, false, false, false, false, true] (Tr.sq [15] .fin) (by kernel_rfl) ?_
      try simp only [go_sem, Nat.reduceEqDiff, reduceIte, Nat.reduceAdd, Nat.reduceMul, Nat.reduceLeDiff, Nat.reduceLT]
      replace h := bindE h
      obtain ⟨v2012, hv2012, h⟩ := h
      refine call_i (s_l00Own_ok _ _ hv2012) ?_
      try simp only [go_sem, Nat.reduceEqDiff, reduceIte, Nat.reduceAdd, Nat.reduceMul, Nat.reduceLeDiff, Nat.reduceLT]
      refine seq_go ?_
      try simp only [go_sem, Nat.reduceEqDiff, reduceIte, Nat.reduceAdd, Nat.reduceMul, Nat.reduceLeDiff, Nat.reduceLT]
      have hj := posG_to rfl rfl (ih1 a0 v2012 [] 0 _ h)
      refine loop_to hj (.one ⟨_, .cell 2014 3 2000000000 (some 4) _ (by simp only [go_sem, Nat.reduceEqDiff, reduceIte, Nat.reduceAdd, Nat.reduceMul, Nat.reduceLeDiff, Nat.reduceLT]; rfl) (by rfl) (by simp only [go_sem, Nat.reduceEqDiff, reduceIte, Nat.reduceAdd, Nat.reduceMul, Nat.reduceLeDiff, Nat.reduceLT]) (.done _), [(1000001000, 32192), (1000001001, 2000000000)], [(1000001500, 1000), (1000001501, 2014)], ?_⟩)
      clear hj
      simp only [go_sem, Nat.reduceEqDiff, reduceIte, Nat.reduceAdd, Nat.reduceMul, Nat.reduceLeDiff, Nat.reduceLT]
    · intro a0 v2012 p1_0 p1_1 r h
      rw [s_l08Erase_l2] at h
      refine posG_of rfl rfl ?_
      try simp only [go_sem, Nat.reduceEqDiff, reduceIte, Nat.reduceAdd, Nat.reduceMul, Nat.reduceLeDiff, Nat.reduceLT]
      refine loop_i ?_
      try simp only [go_sem, Nat.reduceEqDiff, reduceIte, Nat.reduceAdd, Nat.reduceMul, Nat.reduceLeDiff, Nat.reduceLT]
      refine cond_i (fun hb1 => ?_) (fun hb1 => ?_)
      · replace h := ifT (c := (decide (p1_1 < ((List.length a0.kids : Nat) : Int)))) hb1 h
        try simp only [go_sem, Nat.reduceEqDiff, reduceIte, Nat.reduceAdd, Nat.reduceMul, Nat.reduceLeDiff, Nat.reduceLT]
        refine seq_go ?_
        try simp only [go_sem, Nat.reduceEqDiff, reduceIte, Nat.reduceAdd, Nat.reduceMul, Nat.reduceLeDiff, Nat.reduceLT]
        replace h := bindE h
        obtain ⟨v6005, hv6005, h⟩ := h
        refine idx_m hv6005 (Core.ds_len _) ?_
        try simp only [go_sem, Nat.reduceEqDiff, reduceIte, Nat.reduceAdd, Nat.reduceMul, Nat.reduceLeDiff, Nat.reduceLT]
        replace h := bindE h
        obtain ⟨v6006, hv6006, h⟩ := h
        refine call_g ⟨[], [], [], [(1501, 96096), (1502, 96097)], [], true⟩ (by kernel_rfl) (ih0 _ _ hv6006) (by kernel_rfl) ?_
        try simp only [go_sem, Nat.reduceEqDiff, reduceIte, Nat.reduceAdd, Nat.reduceMul, Nat.reduceLeDiff, Nat.reduceLT]
        refine cond_i (fun hb2 => ?_) (fun hb2 => ?_)
        · replace h := ifT (c := (!decide (v6006.2 = 0))) hb2 h
          try simp only [go_sem, Nat.reduceEqDiff, reduceIte, Nat.reduceAdd, Nat.reduceMul, Nat.reduceLeDiff, Nat.reduceLT]
          replace h := Option.some.inj h
          obtain rfl := h
          refine ret_i (.deep 0 2000000000 none [0, 2] (by (first | rfl | (simp only [go_sem, Nat.reduceEqDiff, reduceIte, Nat.reduceAdd, Nat.reduceMul, Nat.reduceLeDiff, Nat.reduceLT]; rfl))) (by simp only [go_sem, Nat.reduceEqDiff, reduceIte, Nat.reduceAdd, Nat.reduceMul, Nat.reduceLeDiff, Nat.reduceLT]) (.deep 0 2000000001 none [0, 3] (by (first | rfl | (simp only [go_sem, Nat.reduceEqDiff, reduceIte, Nat.reduceAdd, Nat.reduceMul, Nat.reduceLeDiff, Nat.reduceLT]; rfl))) (by simp only [go_sem, Nat.reduceEqDiff, reduceIte, Nat.reduceAdd, Nat.reduceMul, Nat.reduceLeDiff, Nat.reduceLT]) (.done _))) [(1501, 2000000000), (1502, 2000000001)] [] ?_
          simp only [go_sem, Nat.reduceEqDiff, reduceIte, Nat.reduceAdd, Nat.reduceMul, Nat.reduceLeDiff, Nat.reduceLT]
          all_goals try rfl
        · replace h := ifF (c := (!decide (v6006.2 = 0))) hb2 h
          try simp only [go_sem, Nat.reduceEqDiff, reduceIte, Nat.reduceAdd, Nat.reduceMul, Nat.reduceLeDiff, Nat.reduceLT]
          refine seq_go ?_
          try simp only [go_sem, Nat.reduceEqDiff, reduceIte, Nat.reduceAdd, Nat.reduceMul, Nat.reduceLeDiff, Nat.reduceLT]
          refine draw_i [false, false, false, false, false, true, true, true, true, true] (Tr.sq [5, 6, 8] (.br 7 (Tr.sq [9] .fin) (.br 9 (Tr.sq [7] .fin) .stop))) (by kernel_rfl) ?_
          try simp only [go_sem, Nat.reduceEqDiff, reduceIte, Nat.reduceAdd, Nat.reduceMul, Nat.reduceLeDiff, Nat.reduceLT]
          replace h := bindE h
          obtain ⟨v9005, hv9005, h⟩ := h
          have hq_ := app_some hv9005
          obtain ⟨hv9005a, hv9005b⟩ := hq_
          refine and_i (by refine ⟨?_, ?_⟩ <;> (try simp only [List.length_map, List.length_append, List.length_cons, List.length_nil] at *) <;> (try unfold maxLen) <;> omega) ?_
          try simp only [go_sem, Nat.reduceEqDiff, reduceIte, Nat.reduceAdd, Nat.reduceMul, Nat.reduceLeDiff, Nat.reduceLT]
          refine row_i (List.map Core.ds v9005) (by rw [← hv9005b]; simp only [List.map_append, List.map_cons, List.map_nil, List.nil_append, List.append_nil, go_sem, Core.ds_eq]) ?_
          try simp only [go_sem, Nat.reduceEqDiff, reduceIte, Nat.reduceAdd, Nat.reduceMul, Nat.reduceLeDiff, Nat.reduceLT]
          replace h := bindE h
          obtain ⟨v9006, hv9006, h⟩ := h
          refine idx_m hv9006 (Core.ds_len _) ?_
          try simp only [go_sem, Nat.reduceEqDiff, reduceIte, Nat.reduceAdd, Nat.reduceMul, Nat.reduceLeDiff, Nat.reduceLT]
          refine alt_i ?_ ?_
          · try simp only [go_sem, Nat.reduceEqDiff, reduceIte, Nat.reduceAdd, Nat.reduceMul, Nat.reduceLeDiff, Nat.reduceLT]
            replace h := bindE h
            obtain ⟨v9007_12, hv9007_12, h⟩ := h
            refine opt_i (row_m hv9006) ?_
            try simp only [go_sem, Nat.reduceEqDiff, reduceIte, Nat.reduceAdd, Nat.reduceMul, Nat.reduceLeDiff, Nat.reduceLT]
            refine row_i (List.map Core.ds v9007_12) (by rw [← set1_some hv9007_12]; simp only [List.map_set, go_sem, Core.ds_eq]) ?_
            try simp only [go_sem, Nat.reduceEqDiff, reduceIte, Nat.reduceAdd, Nat.reduceMul, Nat.reduceLeDiff, Nat.reduceLT]
            refine seq_go ?_
            try simp only [go_sem, Nat.reduceEqDiff, reduceIte, Nat.reduceAdd, Nat.reduceMul, Nat.reduceLeDiff, Nat.reduceLT]
            have hj := posG_to rfl rfl (ih1 a0 v2012 v9007_12 (IntKind.i64.wrap (p1_1 + 1)) _ h)
            refine lp_to hj (.one ⟨_, .done _, [(1000001000, 1000001000), (1000001001, 144080)], [(1000001500, 1000001500), (1000001501, 1000001501)], ?_⟩)
            clear hj
            try simp only [go_sem, Nat.reduceEqDiff, reduceIte, Nat.reduceAdd, Nat.reduceMul, Nat.reduceLeDiff, Nat.reduceLT]
          · try simp only [go_sem, Nat.reduceEqDiff, reduceIte, Nat.reduceAdd, Nat.reduceMul, Nat.reduceLeDiff, Nat.reduceLT]
            replace h := bindE h
            obtain ⟨v9007_12, hv9007_12, h⟩ := h
            refine opt_i (row_m hv9006) ?_
            try simp only [go_sem, Nat.reduceEqDiff, reduceIte, Nat.reduceAdd, Nat.reduceMul, Nat.reduceLeDiff, Nat.reduceLT]
            refine row_i (List.map Core.ds v9007_12) (by rw [← set1_some hv9007_12]; simp only [List.map_set, go_sem, Core.ds_eq]) ?_
            try simp only [go_sem, Nat.reduceEqDiff, reduceIte, Nat.reduceAdd, Nat.reduceMul, Nat.reduceLeDiff, Nat.reduceLT]
            refine seq_go ?_
            try simp only [go_sem, Nat.reduceEqDiff, reduceIte, Nat.reduceAdd, Nat.reduceMul, Nat.reduceLeDiff, Nat.reduceLT]
            have hj := posG_to rfl rfl (ih1 a0 v2012 v9007_12 (IntKind.i64.wrap (p1_1 + 1)) _ h)
            refine lp_to hj (.one ⟨_, .done _, [(1000001000, 1000001000), (1000001001, 144080)], [(1000001500, 1000001500), (1000001501, 1000001501)], ?_⟩)
            clear hj
            try simp only [go_sem, Nat.reduceEqDiff, reduceIte, Nat.reduceAdd, Nat.reduceMul, Nat.reduceLeDiff, Nat.reduceLT]
      · replace h := ifF (c := (decide (p1_1 < ((List.length a0.kids : Nat) : Int)))) hb1 h
        try simp only [go_sem, Nat.reduceEqDiff, reduceIte, Nat.reduceAdd, Nat.reduceMul, Nat.reduceLeDiff, Nat.reduceLT]
        refine seq_go ?_
        try simp only [go_sem, Nat.reduceEqDiff, reduceIte, Nat.reduceAdd, Nat.reduceMul, Nat.reduceLeDiff, Nat.reduceLT]
        refine cond_i (fun hb3 => ?_) (fun hb3 => ?_)
        · replace h := ifT (c := (decide (a0.kind = 6))) hb3 h
          try simp only [go_sem, Nat.reduceEqDiff, reduceIte, Nat.reduceAdd, Nat.reduceMul, Nat.reduceLeDiff, Nat.reduceLT]
          replace h := bindE h
          obtain ⟨v12002, hv12002, h⟩ := h
          refine idx_m hv12002 (Core.ds_len _) ?_
          try simp only [go_sem, Nat.reduceEqDiff, reduceIte, Nat.reduceAdd, Nat.reduceMul, Nat.reduceLeDiff, Nat.reduceLT]
          refine opt_i (row_m hv12002) ?_
          try simp only [go_sem, Nat.reduceEqDiff, reduceIte, Nat.reduceAdd, Nat.reduceMul, Nat.reduceLeDiff, Nat.reduceLT]
          replace h := Option.some.inj h
          obtain rfl := h
          refine ret_i (.take 0 1000001001 2000000000 0 [0, 2] [(4, Int.toNat 0, 2)] ⟨(List.map Core.ds p1_0), some 4, 0⟩ (List.map i64D v12002.data) (by (first | rfl | (simp only [go_sem, Nat.reduceEqDiff, reduceIte, Nat.reduceAdd, Nat.reduceMul, Nat.reduceLeDiff, Nat.reduceLT]; rfl))) (by (first | rfl | (simp only [go_sem, Nat.reduceEqDiff, reduceIte, Nat.reduceAdd, Nat.reduceMul, Nat.reduceLeDiff, Nat.reduceLT]; rfl))) rfl (getP_1 (r := (List.map i64D v12002.data)) (row_m (f := Core.ds) hv12002) (Core.ds_len _) (by rw [Core.ds_eq]; rfl)) (by simp) (by decide) (by simp only [go_sem, Nat.reduceEqDiff, reduceIte, Nat.reduceAdd, Nat.reduceMul, Nat.reduceLeDiff, Nat.reduceLT]) (.take 0 1000001001 2000000001 0 [0, 3] [(4, Int.toNat 0, 3)] ⟨(putR [(4, Int.toNat 0, 2)] (List.map Core.ds p1_0) .gone), some 4, 0⟩ (List.map Core.ds v12002.kids) (by (first | rfl | (simp only [go_sem, Nat.reduceEqDiff, reduceIte, Nat.reduceAdd, Nat.reduceMul, Nat.reduceLeDiff, Nat.reduceLT]; rfl))) (by (first | rfl | (simp only [go_sem, Nat.reduceEqDiff, reduceIte, Nat.reduceAdd, Nat.reduceMul, Nat.reduceLeDiff, Nat.reduceLT]; rfl))) rfl (getP_1 (r := (List.map Core.ds v12002.kids)) (row_put (sz := 4) (d := .gone) (row_m (f := Core.ds) hv12002) (d' := .sl (List.map i64D v12002.data)) (by rw [Core.ds_eq]; rfl)) (by simp only [List.length_set]; exact (Core.ds_len _)) (by rw [Core.ds_eq]; rfl)) (by simp) (by decide) (by simp only [go_sem, Nat.reduceEqDiff, reduceIte, Nat.reduceAdd, Nat.reduceMul, Nat.reduceLeDiff, Nat.reduceLT]) (.done _))) [(1501, 2000000000), (1502, 2000000001)] [] ?_
          simp only [go_sem, Nat.reduceEqDiff, reduceIte, Nat.reduceAdd, Nat.reduceMul, Nat.reduceLeDiff, Nat.reduceLT]
          all_goals try rfl
        · replace h := ifF (c := (decide (a0.kind = 6))) hb3 h
          try simp only [go_sem, Nat.reduceEqDiff, reduceIte, Nat.reduceAdd, Nat.reduceMul, Nat.reduceLeDiff, Nat.reduceLT]
          refine cond_i (fun hb4 => ?_) (fun hb4 => ?_)
          · replace h := ifT (c := (decide (a0.kind = 7))) hb4 h
            try simp only [go_sem, Nat.reduceEqDiff, reduceIte, Nat.reduceAdd, Nat.reduceMul, Nat.reduceLeDiff, Nat.reduceLT]
            refine draw_i [false, false, false, false, false, false, false, false, false, true, true] (Tr.sq [9, 10] .fin) (by kernel_rfl) ?_
            try simp only [go_sem, Nat.reduceEqDiff, reduceIte, Nat.reduceAdd, Nat.reduceMul, Nat.reduceLeDiff, Nat.reduceLT]
            replace h := bindE h
            obtain ⟨v14002, hv14002, h⟩ := h
            refine idx_m hv14002 (Core.ds_len _) ?_
            try simp only [go_sem, Nat.reduceEqDiff, reduceIte, Nat.reduceAdd, Nat.reduceMul, Nat.reduceLeDiff, Nat.reduceLT]
            replace h := bindE h
            obtain ⟨v14005, hv14005, h⟩ := h
            refine idx_m hv14005 (Core.ds_len _) ?_
            try simp only [go_sem, Nat.reduceEqDiff, reduceIte, Nat.reduceAdd, Nat.reduceMul, Nat.reduceLeDiff, Nat.reduceLT]
            replace h := bindE h
            obtain ⟨v14006, hv14006, h⟩ := h
            refine call_e (by simp only [row_m hv14002, row_m hv14005, Core.ds_eq, go_sem, Nat.reduceEqDiff, reduceIte] <;> rfl) (s_l06Instance_ok _ _ _ hv14006) ?_
            try simp only [go_sem, Nat.reduceEqDiff, reduceIte, Nat.reduceAdd, Nat.reduceMul, Nat.reduceLeDiff, Nat.reduceLT]
            refine seq_go ?_
            try simp only [go_sem, Nat.reduceEqDiff, reduceIte, Nat.reduceAdd, Nat.reduceMul, Nat.reduceLeDiff, Nat.reduceLT]
            replace h := Option.some.inj h
            obtain rfl := h
            refine ret_i (.done _) [(1501, 224096), (1502, 224097)] [] ?_
            simp only [go_sem, Nat.reduceEqDiff, reduceIte, Nat.reduceAdd, Nat.reduceMul, Nat.reduceLeDiff, Nat.reduceLT]
          · replace h := ifF (c := (decide (a0.kind = 7))) hb4 h
            try simp only [go_sem, Nat.reduceEqDiff, reduceIte, Nat.reduceAdd, Nat.reduceMul, Nat.reduceLeDiff, Nat.reduceLT]
            refine seq_go ?_
            try simp only [go_sem, Nat.reduceEqDiff, reduceIte, Nat.reduceAdd, Nat.reduceMul, Nat.reduceLeDiff, Nat.reduceLT]
            replace h := bindE h
            obtain ⟨v15000, hv15000, h⟩ := h
            refine call_i (s_l08Fits_ok _ _ hv15000) ?_
            try simp only [go_sem, Nat.reduceEqDiff, reduceIte, Nat.reduceAdd, Nat.reduceMul, Nat.reduceLeDiff, Nat.reduceLT]
            refine cond_i (fun hb5 => ?_) (fun hb5 => ?_)
            · replace h := ifT (c := (!v15000)) hb5 h
              try simp only [go_sem, Nat.reduceEqDiff, reduceIte, Nat.reduceAdd, Nat.reduceMul, Nat.reduceLeDiff, Nat.reduceLT]
              replace h := Option.some.inj h
              obtain rfl := h
              refine ret_i (.deep 0 2000000000 none [0, 2] (by (first | rfl | (simp only [go_sem, Nat.reduceEqDiff, reduceIte, Nat.reduceAdd, Nat.reduceMul, Nat.reduceLeDiff, Nat.reduceLT]; rfl))) (by simp only [go_sem, Nat.reduceEqDiff, reduceIte, Nat.reduceAdd, Nat.reduceMul, Nat.reduceLeDiff, Nat.reduceLT]) (.deep 0 2000000001 none [0, 3] (by (first | rfl | (simp only [go_sem, Nat.reduceEqDiff, reduceIte, Nat.reduceAdd, Nat.reduceMul, Nat.reduceLeDiff, Nat.reduceLT]; rfl))) (by simp only [go_sem, Nat.reduceEqDiff, reduceIte, Nat.reduceAdd, Nat.reduceMul, Nat.reduceLeDiff, Nat.reduceLT]) (.done _))) [(1501, 2000000000), (1502, 2000000001)] [] ?_
              simp only [go_sem, Nat.reduceEqDiff, reduceIte, Nat.reduceAdd, Nat.reduceMul, Nat.reduceLeDiff, Nat.reduceLT]
              all_goals try rfl
            · replace h := ifF (c := (!v15000)) hb5 h
              try simp only [go_sem, Nat.reduceEqDiff, reduceIte, Nat.reduceAdd, Nat.reduceMul, Nat.reduceLeDiff, Nat.reduceLT]
              refine seq_go ?_
              try simp only [go_sem, Nat.reduceEqDiff, reduceIte, Nat.reduceAdd, Nat.reduceMul, Nat.reduceLeDiff, Nat.reduceLT]
              replace h := Option.some.inj h
              obtain rfl := h
              refine ret_i (.done _) [(1501, 1000001000), (1502, 1000001001)] [] ?_
              simp only [go_sem, Nat.reduceEqDiff, reduceIte, Nat.reduceAdd, Nat.reduceMul, Nat.reduceLeDiff, Nat.reduceLT]
theorem s_l08Erase_ok (n : Nat) : (∀ (a0 : Core) (r : Core × Int), s_l08Erase n a0 = some r → AG Try.prog 82 [.rop [.int .i64 a0.kind, .int .i64 a0.value, .ro (List.map i64D a0.data), .ro (List.map Core.ds a0.kids)] 0] [] [] (.tup [.agg [.int .i64 r.1.kind, .int .i64 r.1.value, .own 1501, .own 1502], .int .i64 r.2]) [(1501, ⟨List.map i64D r.1.data, none, 0⟩), (1502, ⟨List.map Core.ds r.1.kids, none, 0⟩)] []) := (s_l08Erase_all n).1
theorem s_l08Erase_l2_ok (n : Nat) : (∀ (a0 : Core) (v2012 : (List Int)) (p1_0 : List Core) (p1_1 : Int) (r : Core × Int), s_l08Erase_l2 n a0 v2012 p1_0 p1_1 = some r → posG Try.prog Try.f82 [1, 1, 0, 1, 0] (.tup [.agg [.int .i64 r.1.kind, .int .i64 r.1.value, .own 1501, .own 1502], .int .i64 r.2]) [(1501, ⟨List.map i64D r.1.data, none, 0⟩), (1502, ⟨List.map Core.ds r.1.kids, none, 0⟩)] [] ⟨[(0, .rop [.int .i64 a0.kind, .int .i64 a0.value, .ro (List.map i64D a0.data), .ro (List.map Core.ds a0.kids)] 0), (2, .box 1000001500 0), (4, .box 1000001501 0), (5, .int .i64 p1_1)], [(1000001000, some ⟨List.map i64D v2012, some 1, 0⟩), (1000001001, some ⟨List.map Core.ds p1_0, some 4, 0⟩)], [(1000001500, some [.int .i64 0, .int .i64 0, .nils, .nils]), (1000001501, some [.int .i64 a0.kind, .int .i64 a0.value, .own 1000001000, .own 1000001001])]⟩) := (s_l08Erase_all n).2

theorem s_EraseCore_ok (a0 : Core) (r : Core × Int) (h : s_EraseCore a0 = some r) : AC Try.prog 22 [.agg (Core.avs a0)] (.tup [.agg (Core.rvn r.1), .int .i64 r.2]) := by
  unfold s_EraseCore at h
  refine ac_fn mixed Try.func22 rfl rfl rfl (by kernel_rfl) (by kernel_rfl) ?_
  try simp only [go_sem, Nat.reduceEqDiff, reduceIte, Nat.reduceAdd, Nat.reduceMul, Nat.reduceLeDiff, Nat.reduceLT]
  replace h := bindE h
  obtain ⟨v2000, hv2000, h⟩ := h
  refine call_i (s_l06Closed_ok _ _ hv2000) ?_
  try simp only [go_sem, Nat.reduceEqDiff, reduceIte, Nat.reduceAdd, Nat.reduceMul, Nat.reduceLeDiff, Nat.reduceLT]
  refine cond_i (fun hb1 => ?_) (fun hb1 => ?_)
  · replace h := ifT (c := (!v2000)) hb1 h
    try simp only [go_sem, Nat.reduceEqDiff, reduceIte, Nat.reduceAdd, Nat.reduceMul, Nat.reduceLeDiff, Nat.reduceLT]
    replace h := Option.some.inj h
    obtain rfl := h
    simp only [go_sem, Nat.reduceEqDiff, reduceIte, Nat.reduceAdd, Nat.reduceMul, Nat.reduceLeDiff, Nat.reduceLT]
  · replace h := ifF (c := (!v2000)) hb1 h
    try simp only [go_sem, Nat.reduceEqDiff, reduceIte, Nat.reduceAdd, Nat.reduceMul, Nat.reduceLeDiff, Nat.reduceLT]
    refine seq_go ?_
    try simp only [go_sem, Nat.reduceEqDiff, reduceIte, Nat.reduceAdd, Nat.reduceMul, Nat.reduceLeDiff, Nat.reduceLT]
    replace h := bindE h
    obtain ⟨v4000, hv4000, h⟩ := h
    refine call_g ⟨[], [], [], [(1501, 64000), (1502, 64001)], [], false⟩ (by kernel_rfl) (s_l08Erase_ok fuel _ _ hv4000) (by kernel_rfl) ?_
    try simp only [go_sem, Nat.reduceEqDiff, reduceIte, Nat.reduceAdd, Nat.reduceMul, Nat.reduceLeDiff, Nat.reduceLT]
    replace h := Option.some.inj h
    obtain rfl := h
    simp only [go_sem, Nat.reduceEqDiff, reduceIte, Nat.reduceAdd, Nat.reduceMul, Nat.reduceLeDiff, Nat.reduceLT]
theorem i_erase_j3_ok (p2_0 : Int) (p2_1 : Int) (p2_2 : List Int) (p2_3 : List Core) (r : Core × Bool) (h : i_erase_j3 p2_0 p2_1 p2_2 p2_3 = some r) : posF Try.prog Try.f84 [1, 1, 1, 1] (.tup [.agg (Core.rvn r.1), .bool r.2]) ⟨[(2, .box 1000002500 0), (4, .box 1000002501 0)], [(1000002000, some ⟨List.map i64D p2_2, none, 0⟩), (1000002001, some ⟨List.map Core.ds p2_3, none, 0⟩)], [(1000002500, some [.int .i64 0, .int .i64 0, .nils, .nils]), (1000002501, some [.int .i64 p2_0, .int .i64 p2_1, .own 1000002000, .own 1000002001])]⟩ := by
  unfold i_erase_j3 at h
  refine posF_of rfl rfl ?_
  try simp only [go_sem, Nat.reduceEqDiff, reduceIte, Nat.reduceAdd, Nat.reduceMul, Nat.reduceLeDiff, Nat.reduceLT]
  refine draw_i [false, false, false, true, true] (Tr.sq [3, 4] .fin) (by kernel_rfl) ?_
  try simp only [go_sem, Nat.reduceEqDiff, reduceIte, Nat.reduceAdd, Nat.reduceMul, Nat.reduceLeDiff, Nat.reduceLT]
  replace h := bindE h
  obtain ⟨v16002, hv16002, h⟩ := h
  refine call_i (i_coreFits_ok _ _ hv16002) ?_
  try simp only [go_sem, Nat.reduceEqDiff, reduceIte, Nat.reduceAdd, Nat.reduceMul, Nat.reduceLeDiff, Nat.reduceLT]
  refine seq_go ?_
  try simp only [go_sem, Nat.reduceEqDiff, reduceIte, Nat.reduceAdd, Nat.reduceMul, Nat.reduceLeDiff, Nat.reduceLT]
  replace h := Option.some.inj h
  obtain rfl := h
  simp only [go_sem, Nat.reduceEqDiff, reduceIte, Nat.reduceAdd, Nat.reduceMul, Nat.reduceLeDiff, Nat.reduceLT]
theorem i_erase_all (n : Nat) : (∀ (a0 : Core) (r : Core × Bool), i_erase n a0 = some r → AC Try.prog 84 [.agg (Core.avs a0)] (.tup [.agg (Core.rvn r.1), .bool r.2])) ∧
    (∀ (a0 : Core) (v2006 : (List Int)) (p1_0 : List Core) (p1_1 : Int) (r : Core × Bool), i_erase_l2 n a0 v2006 p1_0 p1_1 = some r → posF Try.prog Try.f84 [1, 1, 0, 1, 0] (.tup [.agg (Core.rvn r.1), .bool r.2]) ⟨[(1, .box 1000001500 0), (2, .box 1000001501 0), (4, .box 1000001502 0), (18, .ro (List.map Core.ds a0.kids)), (19, .int .i64 ((List.length a0.kids : Nat) : Int)), (20, .int .i64 p1_1)], [(1000001000, some ⟨List.map i64D v2006, some 1, 0⟩), (1000001001, some ⟨List.map Core.ds p1_0, some 4, 0⟩)], [(1000001500, some [.int .i64 a0.kind, .int .i64 a0.value, .ro (List.map i64D a0.data), .ro (List.map Core.ds a0.kids)]), (1000001501, some [.int .i64 0, .int .i64 0, .nils, .nils]), (1000001502, some [.int .i64 a0.kind, .int .i64 a0.value, .own 1000001000, .own 1000001001])]⟩) := by
  induction n with
  | zero => exact ⟨(fun _ _ h => by rw [i_erase] at h; cases h), (fun _ _ _ _ _ h => by rw [i_erase_l2] at h; cases h)⟩
  | succ n ih =>
    obtain ⟨ih0, ih1⟩ := ih
    refine ⟨?_, ?_⟩
    · intro a0 r h
      rw [i_erase] at h
      refine ac_fn mixed Try.func84 rfl rfl rfl (by kernel_rfl) (by kernel_rfl) ?_
      try simp only [go_sem, Nat.reduceEqDiff, reduceIte, Nat.reduceAdd, Nat.reduceMul, Nat.reduceLeDiff, Nat.reduceLT]
      refine draw_i [false, false, false, false, false, false, false, false, false, true] (Tr.sq [9] .fin) (by kernel_rfl) ?_
      try simp only [go_sem, Nat.reduceEqDiff, reduceIte, Nat.reduceAdd, Nat.reduceMul, Nat.reduceLeDiff, Nat.reduceLT]
      replace h := bindE h
      obtain ⟨v2006, hv2006, h⟩ := h
      refine call_i (g_Clone_sint64_ok _ _ hv2006) ?_
      try simp only [go_sem, Nat.reduceEqDiff, reduceIte, Nat.reduceAdd, Nat.reduceMul, Nat.reduceLeDiff, Nat.reduceLT]
      refine seq_go ?_
      try simp only [go_sem, Nat.reduceEqDiff, reduceIte, Nat.reduceAdd, Nat.reduceMul, Nat.reduceLeDiff, Nat.reduceLT]
      have hj := posF_to rfl rfl (ih1 a0 v2006 [] 0 _ h)
      refine loop_to hj (.one ⟨_, .cell 2008 3 2000000000 (some 4) _ (by simp only [go_sem, Nat.reduceEqDiff, reduceIte, Nat.reduceAdd, Nat.reduceMul, Nat.reduceLeDiff, Nat.reduceLT]; rfl) (by rfl) (by simp only [go_sem, Nat.reduceEqDiff, reduceIte, Nat.reduceAdd, Nat.reduceMul, Nat.reduceLeDiff, Nat.reduceLT]) (.done _), [(1000001000, 32096), (1000001001, 2000000000)], [(1000001500, 1000), (1000001501, 1001), (1000001502, 2008)], ?_⟩)
      clear hj
      simp only [go_sem, Nat.reduceEqDiff, reduceIte, Nat.reduceAdd, Nat.reduceMul, Nat.reduceLeDiff, Nat.reduceLT]
    · intro a0 v2006 p1_0 p1_1 r h
      rw [i_erase_l2] at h
      refine posF_of rfl rfl ?_
      try simp only [go_sem, Nat.reduceEqDiff, reduceIte, Nat.reduceAdd, Nat.reduceMul, Nat.reduceLeDiff, Nat.reduceLT]
      refine loop_i ?_
      try simp only [go_sem, Nat.reduceEqDiff, reduceIte, Nat.reduceAdd, Nat.reduceMul, Nat.reduceLeDiff, Nat.reduceLT]
      refine cond_i (fun hb1 => ?_) (fun hb1 => ?_)
      · replace h := ifT (c := (decide (p1_1 < ((List.length a0.kids : Nat) : Int)))) hb1 h
        try simp only [go_sem, Nat.reduceEqDiff, reduceIte, Nat.reduceAdd, Nat.reduceMul, Nat.reduceLeDiff, Nat.reduceLT]
        refine seq_go ?_
        try simp only [go_sem, Nat.reduceEqDiff, reduceIte, Nat.reduceAdd, Nat.reduceMul, Nat.reduceLeDiff, Nat.reduceLT]
        replace h := bindE h
        obtain ⟨v5000, hv5000, h⟩ := h
        refine idx_m hv5000 (Core.ds_len _) ?_
        try simp only [go_sem, Nat.reduceEqDiff, reduceIte, Nat.reduceAdd, Nat.reduceMul, Nat.reduceLeDiff, Nat.reduceLT]
        replace h := bindE h
        obtain ⟨v6001, hv6001, h⟩ := h
        refine call_i (ih0 _ _ hv6001) ?_
        try simp only [go_sem, Nat.reduceEqDiff, reduceIte, Nat.reduceAdd, Nat.reduceMul, Nat.reduceLeDiff, Nat.reduceLT]
        refine cond_i (fun hb2 => ?_) (fun hb2 => ?_)
        · replace h := ifT (c := (!v6001.2)) hb2 h
          try simp only [go_sem, Nat.reduceEqDiff, reduceIte, Nat.reduceAdd, Nat.reduceMul, Nat.reduceLeDiff, Nat.reduceLT]
          replace h := Option.some.inj h
          obtain rfl := h
          simp only [go_sem, Nat.reduceEqDiff, reduceIte, Nat.reduceAdd, Nat.reduceMul, Nat.reduceLeDiff, Nat.reduceLT]
        · replace h := ifF (c := (!v6001.2)) hb2 h
          try simp only [go_sem, Nat.reduceEqDiff, reduceIte, Nat.reduceAdd, Nat.reduceMul, Nat.reduceLeDiff, Nat.reduceLT]
          refine seq_go ?_
          try simp only [go_sem, Nat.reduceEqDiff, reduceIte, Nat.reduceAdd, Nat.reduceMul, Nat.reduceLeDiff, Nat.reduceLT]
          replace h := bindE h
          obtain ⟨v9004, hv9004, h⟩ := h
          have hq_ := app_some hv9004
          obtain ⟨hv9004a, hv9004b⟩ := hq_
          refine and_i (by refine ⟨?_, ?_⟩ <;> (try simp only [List.length_map, List.length_append, List.length_cons, List.length_nil] at *) <;> (try unfold maxLen) <;> omega) ?_
          try simp only [go_sem, Nat.reduceEqDiff, reduceIte, Nat.reduceAdd, Nat.reduceMul, Nat.reduceLeDiff, Nat.reduceLT]
          refine row_i (List.map Core.ds v9004) (by rw [← hv9004b]; simp only [List.map_append, List.map_cons, List.map_nil, List.nil_append, List.append_nil, go_sem, Core.ds_eq]) ?_
          try simp only [go_sem, Nat.reduceEqDiff, reduceIte, Nat.reduceAdd, Nat.reduceMul, Nat.reduceLeDiff, Nat.reduceLT]
          refine seq_go ?_
          try simp only [go_sem, Nat.reduceEqDiff, reduceIte, Nat.reduceAdd, Nat.reduceMul, Nat.reduceLeDiff, Nat.reduceLT]
          have hj := posF_to rfl rfl (ih1 a0 v2006 v9004 (IntKind.i64.wrap (p1_1 + 1)) _ h)
          refine lp_to hj (.one ⟨_, .done _, [(1000001000, 1000001000), (1000001001, 144064)], [(1000001500, 1000001500), (1000001501, 1000001501), (1000001502, 1000001502)], ?_⟩)
          clear hj
          try simp only [go_sem, Nat.reduceEqDiff, reduceIte, Nat.reduceAdd, Nat.reduceMul, Nat.reduceLeDiff, Nat.reduceLT]
      · replace h := ifF (c := (decide (p1_1 < ((List.length a0.kids : Nat) : Int)))) hb1 h
        try simp only [go_sem, Nat.reduceEqDiff, reduceIte, Nat.reduceAdd, Nat.reduceMul, Nat.reduceLeDiff, Nat.reduceLT]
        refine seq_go ?_
        try simp only [go_sem, Nat.reduceEqDiff, reduceIte, Nat.reduceAdd, Nat.reduceMul, Nat.reduceLeDiff, Nat.reduceLT]
        refine cond_i (fun hb3 => ?_) (fun hb3 => ?_)
        · replace h := ifT (c := (decide (a0.kind = 6))) hb3 h
          try simp only [go_sem, Nat.reduceEqDiff, reduceIte, Nat.reduceAdd, Nat.reduceMul, Nat.reduceLeDiff, Nat.reduceLT]
          replace h := bindE h
          obtain ⟨v13002, hv13002, h⟩ := h
          refine idx_m hv13002 (Core.ds_len _) ?_
          try simp only [go_sem, Nat.reduceEqDiff, reduceIte, Nat.reduceAdd, Nat.reduceMul, Nat.reduceLeDiff, Nat.reduceLT]
          refine opt_i (row_m hv13002) ?_
          try simp only [go_sem, Nat.reduceEqDiff, reduceIte, Nat.reduceAdd, Nat.reduceMul, Nat.reduceLeDiff, Nat.reduceLT]
          have hj := posF_to rfl rfl (i_erase_j3_ok v13002.kind v13002.value v13002.data v13002.kids _ h)
          refine seq_to hj (.one ⟨_, .ctake 1000001502 2 1000001001 2000000000 0 _ [(4, Int.toNat 0, 2)] ⟨(List.map Core.ds p1_0), some 4, 0⟩ (List.map i64D v13002.data) (by simp only [go_sem, Nat.reduceEqDiff, reduceIte, Nat.reduceAdd, Nat.reduceMul, Nat.reduceLeDiff, Nat.reduceLT]; rfl) (by rfl) (by (first | rfl | (simp only [go_sem, Nat.reduceEqDiff, reduceIte, Nat.reduceAdd, Nat.reduceMul, Nat.reduceLeDiff, Nat.reduceLT]; rfl))) rfl (getP_1 (r := (List.map i64D v13002.data)) (row_m (f := Core.ds) hv13002) (Core.ds_len _) (by rw [Core.ds_eq]; rfl)) (by simp) (by decide) (by simp only [go_sem, Nat.reduceEqDiff, reduceIte, Nat.reduceAdd, Nat.reduceMul, Nat.reduceLeDiff, Nat.reduceLT]) (.ctake 1000001502 3 1000001001 2000000001 0 _ [(4, Int.toNat 0, 3)] ⟨(putR [(4, Int.toNat 0, 2)] (List.map Core.ds p1_0) .gone), some 4, 0⟩ (List.map Core.ds v13002.kids) (by simp only [go_sem, Nat.reduceEqDiff, reduceIte, Nat.reduceAdd, Nat.reduceMul, Nat.reduceLeDiff, Nat.reduceLT]; rfl) (by rfl) (by (first | rfl | (simp only [go_sem, Nat.reduceEqDiff, reduceIte, Nat.reduceAdd, Nat.reduceMul, Nat.reduceLeDiff, Nat.reduceLT]; rfl))) rfl (getP_1 (r := (List.map Core.ds v13002.kids)) (row_put (sz := 4) (d := .gone) (row_m (f := Core.ds) hv13002) (d' := .sl (List.map i64D v13002.data)) (by rw [Core.ds_eq]; rfl)) (by simp only [List.length_set]; exact (Core.ds_len _)) (by rw [Core.ds_eq]; rfl)) (by simp) (by decide) (by simp only [go_sem, Nat.reduceEqDiff, reduceIte, Nat.reduceAdd, Nat.reduceMul, Nat.reduceLeDiff, Nat.reduceLT]) (.done _)), [(1000002000, 2000000000), (1000002001, 2000000001)], [(1000002500, 1000001501), (1000002501, 1000001502)], ?_⟩)
          clear hj
          simp only [go_sem, Nat.reduceEqDiff, reduceIte, Nat.reduceAdd, Nat.reduceMul, Nat.reduceLeDiff, Nat.reduceLT]
        · replace h := ifF (c := (decide (a0.kind = 6))) hb3 h
          try simp only [go_sem, Nat.reduceEqDiff, reduceIte, Nat.reduceAdd, Nat.reduceMul, Nat.reduceLeDiff, Nat.reduceLT]
          refine cond_i (fun hb4 => ?_) (fun hb4 => ?_)
          · replace h := ifT (c := (decide (a0.kind = 7))) hb4 h
            try simp only [go_sem, Nat.reduceEqDiff, reduceIte, Nat.reduceAdd, Nat.reduceMul, Nat.reduceLeDiff, Nat.reduceLT]
            refine draw_i [false, false, false, false, false, false, false, false, false, true] (Tr.sq [9] .fin) (by kernel_rfl) ?_
            try simp only [go_sem, Nat.reduceEqDiff, reduceIte, Nat.reduceAdd, Nat.reduceMul, Nat.reduceLeDiff, Nat.reduceLT]
            replace h := bindE h
            obtain ⟨v15002, hv15002, h⟩ := h
            refine idx_m hv15002 (Core.ds_len _) ?_
            try simp only [go_sem, Nat.reduceEqDiff, reduceIte, Nat.reduceAdd, Nat.reduceMul, Nat.reduceLeDiff, Nat.reduceLT]
            refine opt_i (row_m hv15002) ?_
            try simp only [go_sem, Nat.reduceEqDiff, reduceIte, Nat.reduceAdd, Nat.reduceMul, Nat.reduceLeDiff, Nat.reduceLT]
            replace h := bindE h
            obtain ⟨v15006, hv15006, h⟩ := h
            refine idx_m hv15006 (Core.ds_len _) ?_
            try simp only [go_sem, Nat.reduceEqDiff, reduceIte, Nat.reduceAdd, Nat.reduceMul, Nat.reduceLeDiff, Nat.reduceLT]
            refine opt_i (row_m hv15006) ?_
            try simp only [go_sem, Nat.reduceEqDiff, reduceIte, Nat.reduceAdd, Nat.reduceMul, Nat.reduceLeDiff, Nat.reduceLT]
            replace h := bindE h
            obtain ⟨v15008, hv15008, h⟩ := h
            refine call_e (by simp only [row_m hv15002, row_m hv15006, Core.ds_eq, getP_1 (j := 2) (r := List.map i64D v15002.data) (row_m (f := Core.ds) hv15002) (Core.ds_len _) (by rw [Core.ds_eq]; rfl), getP_1 (j := 3) (r := List.map Core.ds v15002.kids) (row_m (f := Core.ds) hv15002) (Core.ds_len _) (by rw [Core.ds_eq]; rfl), getP_1 (j := 2) (r := List.map i64D v15006.data) (row_m (f := Core.ds) hv15006) (Core.ds_len _) (by rw [Core.ds_eq]; rfl), getP_1 (j := 3) (r := List.map Core.ds v15006.kids) (row_m (f := Core.ds) hv15006) (Core.ds_len _) (by rw [Core.ds_eq]; rfl), go_sem, Nat.reduceEqDiff, reduceIte] <;> rfl) (i_instantiate_ok _ _ _ hv15008) ?_
            try simp only [go_sem, Nat.reduceEqDiff, reduceIte, Nat.reduceAdd, Nat.reduceMul, Nat.reduceLeDiff, Nat.reduceLT]
            have hj := posF_to rfl rfl (i_erase_j3_ok v15008.kind v15008.value v15008.data v15008.kids _ h)
            refine seq_to hj (.one ⟨_, .done _, [(1000002000, 240128), (1000002001, 240129)], [(1000002500, 1000001501), (1000002501, 1000001502)], ?_⟩)
            clear hj
            try simp only [go_sem, Nat.reduceEqDiff, reduceIte, Nat.reduceAdd, Nat.reduceMul, Nat.reduceLeDiff, Nat.reduceLT]
          · replace h := ifF (c := (decide (a0.kind = 7))) hb4 h
            try simp only [go_sem, Nat.reduceEqDiff, reduceIte, Nat.reduceAdd, Nat.reduceMul, Nat.reduceLeDiff, Nat.reduceLT]
            have hj := posF_to rfl rfl (i_erase_j3_ok a0.kind a0.value v2006 p1_0 _ h)
            refine seq_to hj (.one ⟨_, .done _, [(1000002000, 1000001000), (1000002001, 1000001001)], [(1000002500, 1000001501), (1000002501, 1000001502)], ?_⟩)
            clear hj
            try simp only [go_sem, Nat.reduceEqDiff, reduceIte, Nat.reduceAdd, Nat.reduceMul, Nat.reduceLeDiff, Nat.reduceLT]
theorem i_erase_ok (n : Nat) : (∀ (a0 : Core) (r : Core × Bool), i_erase n a0 = some r → AC Try.prog 84 [.agg (Core.avs a0)] (.tup [.agg (Core.rvn r.1), .bool r.2])) := (i_erase_all n).1
theorem i_erase_l2_ok (n : Nat) : (∀ (a0 : Core) (v2006 : (List Int)) (p1_0 : List Core) (p1_1 : Int) (r : Core × Bool), i_erase_l2 n a0 v2006 p1_0 p1_1 = some r → posF Try.prog Try.f84 [1, 1, 0, 1, 0] (.tup [.agg (Core.rvn r.1), .bool r.2]) ⟨[(1, .box 1000001500 0), (2, .box 1000001501 0), (4, .box 1000001502 0), (18, .ro (List.map Core.ds a0.kids)), (19, .int .i64 ((List.length a0.kids : Nat) : Int)), (20, .int .i64 p1_1)], [(1000001000, some ⟨List.map i64D v2006, some 1, 0⟩), (1000001001, some ⟨List.map Core.ds p1_0, some 4, 0⟩)], [(1000001500, some [.int .i64 a0.kind, .int .i64 a0.value, .ro (List.map i64D a0.data), .ro (List.map Core.ds a0.kids)]), (1000001501, some [.int .i64 0, .int .i64 0, .nils, .nils]), (1000001502, some [.int .i64 a0.kind, .int .i64 a0.value, .own 1000001000, .own 1000001001])]⟩) := (i_erase_all n).2

theorem i_EraseCore_ok (a0 : Core) (r : Core × Int) (h : i_EraseCore a0 = some r) : AC Try.prog 23 [.agg (Core.avs a0)] (.tup [.agg (Core.rvn r.1), .int .i64 r.2]) := by
  unfold i_EraseCore at h
  refine ac_fn mixed Try.func23 rfl rfl rfl (by kernel_rfl) (by kernel_rfl) ?_
  try simp only [go_sem, Nat.reduceEqDiff, reduceIte, Nat.reduceAdd, Nat.reduceMul, Nat.reduceLeDiff, Nat.reduceLT]
  replace h := bindE h
  obtain ⟨v2001, hv2001, h⟩ := h
  refine call_i (i_IsClosed_ok _ _ hv2001) ?_
  try simp only [go_sem, Nat.reduceEqDiff, reduceIte, Nat.reduceAdd, Nat.reduceMul, Nat.reduceLeDiff, Nat.reduceLT]
  refine cond_i (fun hb1 => ?_) (fun hb1 => ?_)
  · replace h := ifT (c := (!v2001)) hb1 h
    try simp only [go_sem, Nat.reduceEqDiff, reduceIte, Nat.reduceAdd, Nat.reduceMul, Nat.reduceLeDiff, Nat.reduceLT]
    replace h := Option.some.inj h
    obtain rfl := h
    simp only [go_sem, Nat.reduceEqDiff, reduceIte, Nat.reduceAdd, Nat.reduceMul, Nat.reduceLeDiff, Nat.reduceLT]
  · replace h := ifF (c := (!v2001)) hb1 h
    try simp only [go_sem, Nat.reduceEqDiff, reduceIte, Nat.reduceAdd, Nat.reduceMul, Nat.reduceLeDiff, Nat.reduceLT]
    refine seq_go ?_
    try simp only [go_sem, Nat.reduceEqDiff, reduceIte, Nat.reduceAdd, Nat.reduceMul, Nat.reduceLeDiff, Nat.reduceLT]
    replace h := bindE h
    obtain ⟨v4001, hv4001, h⟩ := h
    refine call_i (i_erase_ok fuel _ _ hv4001) ?_
    try simp only [go_sem, Nat.reduceEqDiff, reduceIte, Nat.reduceAdd, Nat.reduceMul, Nat.reduceLeDiff, Nat.reduceLT]
    refine cond_i (fun hb2 => ?_) (fun hb2 => ?_)
    · replace h := ifT (c := (!v4001.2)) hb2 h
      try simp only [go_sem, Nat.reduceEqDiff, reduceIte, Nat.reduceAdd, Nat.reduceMul, Nat.reduceLeDiff, Nat.reduceLT]
      replace h := Option.some.inj h
      obtain rfl := h
      simp only [go_sem, Nat.reduceEqDiff, reduceIte, Nat.reduceAdd, Nat.reduceMul, Nat.reduceLeDiff, Nat.reduceLT]
    · replace h := ifF (c := (!v4001.2)) hb2 h
      try simp only [go_sem, Nat.reduceEqDiff, reduceIte, Nat.reduceAdd, Nat.reduceMul, Nat.reduceLeDiff, Nat.reduceLT]
      refine seq_go ?_
      try simp only [go_sem, Nat.reduceEqDiff, reduceIte, Nat.reduceAdd, Nat.reduceMul, Nat.reduceLeDiff, Nat.reduceLT]
      replace h := Option.some.inj h
      obtain rfl := h
      simp only [go_sem, Nat.reduceEqDiff, reduceIte, Nat.reduceAdd, Nat.reduceMul, Nat.reduceLeDiff, Nat.reduceLT]
theorem l_FnExactEraseCore_j3_ok (v8001 : Core × Int) (v18002 : Int × (List Int) × (List Core)) (p2_0 : Bool) (r : Bool) (h : l_FnExactEraseCore_j3 v8001 v18002 p2_0 = some r) : posF Try.prog Try.f4 [1, 1, 1, 1, 1, 1, 1, 1, 1, 1, 1, 1, 1, 1, 1, 1, 1, 1, 1, 0, 1] (.bool r) ⟨[(7, .box 1000002500 0), (10, .int .i64 v18002.1), (87, .bool p2_0)], [(1000002000, some ⟨List.map i64D v18002.2.1, none, 0⟩), (1000002001, some ⟨List.map Core.ds v18002.2.2, none, 0⟩)], [(1000002500, some [.int .i64 v8001.1.kind, .int .i64 v8001.1.value, .own 1000002000, .own 1000002001])]⟩ := by
  unfold l_FnExactEraseCore_j3 at h
  refine posF_of rfl rfl ?_
  try simp only [go_sem, Nat.reduceEqDiff, reduceIte, Nat.reduceAdd, Nat.reduceMul, Nat.reduceLeDiff, Nat.reduceLT]
  refine cond_i (fun hb11 => ?_) (fun hb11 => ?_)
  · replace h := ifT (c := p2_0) hb11 h
    try simp only [go_sem, Nat.reduceEqDiff, reduceIte, Nat.reduceAdd, Nat.reduceMul, Nat.reduceLeDiff, Nat.reduceLT]
    replace h := Option.some.inj h
    obtain rfl := h
    simp only [go_sem, Nat.reduceEqDiff, reduceIte, Nat.reduceAdd, Nat.reduceMul, Nat.reduceLeDiff, Nat.reduceLT]
  · replace h := ifF (c := p2_0) hb11 h
    try simp only [go_sem, Nat.reduceEqDiff, reduceIte, Nat.reduceAdd, Nat.reduceMul, Nat.reduceLeDiff, Nat.reduceLT]
    refine seq_go ?_
    try simp only [go_sem, Nat.reduceEqDiff, reduceIte, Nat.reduceAdd, Nat.reduceMul, Nat.reduceLeDiff, Nat.reduceLT]
    replace h := bindE h
    obtain ⟨v29002, hv29002, h⟩ := h
    refine call_i (l_heldCore_ok _ _ _ hv29002) ?_
    try simp only [go_sem, Nat.reduceEqDiff, reduceIte, Nat.reduceAdd, Nat.reduceMul, Nat.reduceLeDiff, Nat.reduceLT]
    refine cond_i (fun hb12 => ?_) (fun hb12 => ?_)
    · replace h := ifT (c := (decide (v29002 < 0))) hb12 h
      try simp only [go_sem, Nat.reduceEqDiff, reduceIte, Nat.reduceAdd, Nat.reduceMul, Nat.reduceLeDiff, Nat.reduceLT]
      replace h := Option.some.inj h
      obtain rfl := h
      simp only [go_sem, Nat.reduceEqDiff, reduceIte, Nat.reduceAdd, Nat.reduceMul, Nat.reduceLeDiff, Nat.reduceLT]
    · replace h := ifF (c := (decide (v29002 < 0))) hb12 h
      try simp only [go_sem, Nat.reduceEqDiff, reduceIte, Nat.reduceAdd, Nat.reduceMul, Nat.reduceLeDiff, Nat.reduceLT]
      refine seq_go ?_
      try simp only [go_sem, Nat.reduceEqDiff, reduceIte, Nat.reduceAdd, Nat.reduceMul, Nat.reduceLeDiff, Nat.reduceLT]
      refine cond_i (fun hb13 => ?_) (fun hb13 => ?_)
      · replace h := ifT (c := (!decide (v29002 = v18002.1))) hb13 h
        try simp only [go_sem, Nat.reduceEqDiff, reduceIte, Nat.reduceAdd, Nat.reduceMul, Nat.reduceLeDiff, Nat.reduceLT]
        replace h := Option.some.inj h
        obtain rfl := h
        simp only [go_sem, Nat.reduceEqDiff, reduceIte, Nat.reduceAdd, Nat.reduceMul, Nat.reduceLeDiff, Nat.reduceLT]
      · replace h := ifF (c := (!decide (v29002 = v18002.1))) hb13 h
        try simp only [go_sem, Nat.reduceEqDiff, reduceIte, Nat.reduceAdd, Nat.reduceMul, Nat.reduceLeDiff, Nat.reduceLT]
        refine seq_go ?_
        try simp only [go_sem, Nat.reduceEqDiff, reduceIte, Nat.reduceAdd, Nat.reduceMul, Nat.reduceLeDiff, Nat.reduceLT]
        replace h := Option.some.inj h
        obtain rfl := h
        simp only [go_sem, Nat.reduceEqDiff, reduceIte, Nat.reduceAdd, Nat.reduceMul, Nat.reduceLeDiff, Nat.reduceLT]
theorem l_FnExactEraseCore_j2_ok (a0 : Core) (v6002 : Core × Int) (v8001 : Core × Int) (p1_0 : Bool) (r : Bool) (h : l_FnExactEraseCore_j2 a0 v6002 v8001 p1_0 = some r) : posF Try.prog Try.f4 [1, 1, 1, 1, 1, 1, 1, 1, 1, 1, 1, 0, 1] (.bool r) ⟨[(1, .box 1000001500 0), (4, .box 1000001501 0), (5, .int .i64 v6002.2), (7, .box 1000001502 0), (61, .bool p1_0)], [(1000001000, some ⟨List.map i64D v6002.1.data, none, 0⟩), (1000001001, some ⟨List.map Core.ds v6002.1.kids, none, 0⟩), (1000001002, some ⟨List.map i64D v8001.1.data, none, 0⟩), (1000001003, some ⟨List.map Core.ds v8001.1.kids, none, 0⟩)], [(1000001500, some [.int .i64 a0.kind, .int .i64 a0.value, .ro (List.map i64D a0.data), .ro (List.map Core.ds a0.kids)]), (1000001501, some [.int .i64 v6002.1.kind, .int .i64 v6002.1.value, .own 1000001000, .own 1000001001]), (1000001502, some [.int .i64 v8001.1.kind, .int .i64 v8001.1.value, .own 1000001002, .own 1000001003])]⟩ := by
  unfold l_FnExactEraseCore_j2 at h
  refine posF_of rfl rfl ?_
  try simp only [go_sem, Nat.reduceEqDiff, reduceIte, Nat.reduceAdd, Nat.reduceMul, Nat.reduceLeDiff, Nat.reduceLT]
  refine cond_i (fun hb7 => ?_) (fun hb7 => ?_)
  · replace h := ifT (c := p1_0) hb7 h
    try simp only [go_sem, Nat.reduceEqDiff, reduceIte, Nat.reduceAdd, Nat.reduceMul, Nat.reduceLeDiff, Nat.reduceLT]
    replace h := Option.some.inj h
    obtain rfl := h
    simp only [go_sem, Nat.reduceEqDiff, reduceIte, Nat.reduceAdd, Nat.reduceMul, Nat.reduceLeDiff, Nat.reduceLT]
  · replace h := ifF (c := p1_0) hb7 h
    try simp only [go_sem, Nat.reduceEqDiff, reduceIte, Nat.reduceAdd, Nat.reduceMul, Nat.reduceLeDiff, Nat.reduceLT]
    refine seq_go ?_
    try simp only [go_sem, Nat.reduceEqDiff, reduceIte, Nat.reduceAdd, Nat.reduceMul, Nat.reduceLeDiff, Nat.reduceLT]
    replace h := bindE h
    obtain ⟨v18002, hv18002, h⟩ := h
    refine call_g ⟨[], [(1, 1000001002), (2, 1000001003)], [], [], [], true⟩ (by kernel_rfl) (l_markCore_ok _ _ none none _ hv18002) (by kernel_rfl) ?_
    try simp only [go_sem, Nat.reduceEqDiff, reduceIte, Nat.reduceAdd, Nat.reduceMul, Nat.reduceLeDiff, Nat.reduceLT]
    replace h := bindE h
    obtain ⟨v20002, hv20002, h⟩ := h
    refine call_i (l_heldCore_ok _ _ _ hv20002) ?_
    try simp only [go_sem, Nat.reduceEqDiff, reduceIte, Nat.reduceAdd, Nat.reduceMul, Nat.reduceLeDiff, Nat.reduceLT]
    refine cond_i (fun hb8 => ?_) (fun hb8 => ?_)
    · replace h := ifT (c := (decide (v20002 < 0))) hb8 h
      try simp only [go_sem, Nat.reduceEqDiff, reduceIte, Nat.reduceAdd, Nat.reduceMul, Nat.reduceLeDiff, Nat.reduceLT]
      replace h := Option.some.inj h
      obtain rfl := h
      simp only [go_sem, Nat.reduceEqDiff, reduceIte, Nat.reduceAdd, Nat.reduceMul, Nat.reduceLeDiff, Nat.reduceLT]
    · replace h := ifF (c := (decide (v20002 < 0))) hb8 h
      try simp only [go_sem, Nat.reduceEqDiff, reduceIte, Nat.reduceAdd, Nat.reduceMul, Nat.reduceLeDiff, Nat.reduceLT]
      refine seq_go ?_
      try simp only [go_sem, Nat.reduceEqDiff, reduceIte, Nat.reduceAdd, Nat.reduceMul, Nat.reduceLeDiff, Nat.reduceLT]
      refine cond_i (fun hb9 => ?_) (fun hb9 => ?_)
      · replace h := ifT (c := (!decide (v20002 = v18002.1))) hb9 h
        try simp only [go_sem, Nat.reduceEqDiff, reduceIte, Nat.reduceAdd, Nat.reduceMul, Nat.reduceLeDiff, Nat.reduceLT]
        replace h := Option.some.inj h
        obtain rfl := h
        simp only [go_sem, Nat.reduceEqDiff, reduceIte, Nat.reduceAdd, Nat.reduceMul, Nat.reduceLeDiff, Nat.reduceLT]
      · replace h := ifF (c := (!decide (v20002 = v18002.1))) hb9 h
        try simp only [go_sem, Nat.reduceEqDiff, reduceIte, Nat.reduceAdd, Nat.reduceMul, Nat.reduceLeDiff, Nat.reduceLT]
        refine seq_go ?_
        try simp only [go_sem, Nat.reduceEqDiff, reduceIte, Nat.reduceAdd, Nat.reduceMul, Nat.reduceLeDiff, Nat.reduceLT]
        replace h := bindE h
        obtain ⟨v25001, hv25001, h⟩ := h
        refine call_i (l_toCore_ok fuel _ _ hv25001) ?_
        try simp only [go_sem, Nat.reduceEqDiff, reduceIte, Nat.reduceAdd, Nat.reduceMul, Nat.reduceLeDiff, Nat.reduceLT]
        replace h := bindE h
        obtain ⟨v25002, hv25002, h⟩ := h
        refine call_i (i_EraseCore_ok _ _ hv25002) ?_
        try simp only [go_sem, Nat.reduceEqDiff, reduceIte, Nat.reduceAdd, Nat.reduceMul, Nat.reduceLeDiff, Nat.reduceLT]
        replace h := bindE h
        obtain ⟨v26002, hv26002, h⟩ := h
        refine call_i (l_eqCore_ok fuel _ _ _ hv26002) ?_
        try simp only [go_sem, Nat.reduceEqDiff, reduceIte, Nat.reduceAdd, Nat.reduceMul, Nat.reduceLeDiff, Nat.reduceLT]
        refine cond_i (fun hb10 => ?_) (fun hb10 => ?_)
        · replace h := ifT (c := (!v26002)) hb10 h
          try simp only [go_sem, Nat.reduceEqDiff, reduceIte, Nat.reduceAdd, Nat.reduceMul, Nat.reduceLeDiff, Nat.reduceLT]
          have hj := posF_to rfl rfl (l_FnExactEraseCore_j3_ok v8001 v18002 true _ h)
          refine seq_to hj (.one ⟨_, .done _, [(1000002000, 1000001002), (1000002001, 1000001003)], [(1000002500, 1000001502)], ?_⟩)
          clear hj
          try simp only [go_sem, Nat.reduceEqDiff, reduceIte, Nat.reduceAdd, Nat.reduceMul, Nat.reduceLeDiff, Nat.reduceLT]
        · replace h := ifF (c := (!v26002)) hb10 h
          try simp only [go_sem, Nat.reduceEqDiff, reduceIte, Nat.reduceAdd, Nat.reduceMul, Nat.reduceLeDiff, Nat.reduceLT]
          have hj := posF_to rfl rfl (l_FnExactEraseCore_j3_ok v8001 v18002 (!decide (v25002.2 = v6002.2)) _ h)
          refine seq_to hj (.one ⟨_, .done _, [(1000002000, 1000001002), (1000002001, 1000001003)], [(1000002500, 1000001502)], ?_⟩)
          clear hj
          try simp only [go_sem, Nat.reduceEqDiff, reduceIte, Nat.reduceAdd, Nat.reduceMul, Nat.reduceLeDiff, Nat.reduceLT]
theorem l_FnExactEraseCore_j1_ok (a0 : Core) (v6002 : Core × Int) (v7001 : Core) (v8001 : Core × Int) (p0_0 : Bool) (r : Bool) (h : l_FnExactEraseCore_j1 a0 v6002 v7001 v8001 p0_0 = some r) : posF Try.prog Try.f4 [1, 1, 1, 1, 1, 1, 1, 0, 1] (.bool r) ⟨[(1, .box 1000000500 0), (4, .box 1000000501 0), (5, .int .i64 v6002.2), (6, .box 1000000502 0), (7, .box 1000000503 0), (8, .int .i64 v8001.2), (40, .bool p0_0)], [(1000000000, some ⟨List.map i64D v6002.1.data, none, 0⟩), (1000000001, some ⟨List.map Core.ds v6002.1.kids, none, 0⟩), (1000000002, some ⟨List.map i64D v7001.data, some 1, 0⟩), (1000000003, some ⟨List.map Core.ds v7001.kids, some 4, 0⟩), (1000000004, some ⟨List.map i64D v8001.1.data, none, 0⟩), (1000000005, some ⟨List.map Core.ds v8001.1.kids, none, 0⟩)], [(1000000500, some [.int .i64 a0.kind, .int .i64 a0.value, .ro (List.map i64D a0.data), .ro (List.map Core.ds a0.kids)]), (1000000501, some [.int .i64 v6002.1.kind, .int .i64 v6002.1.value, .own 1000000000, .own 1000000001]), (1000000502, some [.int .i64 v7001.kind, .int .i64 v7001.value, .own 1000000002, .own 1000000003]), (1000000503, some [.int .i64 v8001.1.kind, .int .i64 v8001.1.value, .own 1000000004, .own 1000000005])]⟩ := by
  unfold l_FnExactEraseCore_j1 at h
  refine posF_of rfl rfl ?_
  try simp only [go_sem, Nat.reduceEqDiff, reduceIte, Nat.reduceAdd, Nat.reduceMul, Nat.reduceLeDiff, Nat.reduceLT]
  refine cond_i (fun hb3 => ?_) (fun hb3 => ?_)
  · replace h := ifT (c := p0_0) hb3 h
    try simp only [go_sem, Nat.reduceEqDiff, reduceIte, Nat.reduceAdd, Nat.reduceMul, Nat.reduceLeDiff, Nat.reduceLT]
    replace h := Option.some.inj h
    obtain rfl := h
    simp only [go_sem, Nat.reduceEqDiff, reduceIte, Nat.reduceAdd, Nat.reduceMul, Nat.reduceLeDiff, Nat.reduceLT]
  · replace h := ifF (c := p0_0) hb3 h
    try simp only [go_sem, Nat.reduceEqDiff, reduceIte, Nat.reduceAdd, Nat.reduceMul, Nat.reduceLeDiff, Nat.reduceLT]
    refine seq_go ?_
    try simp only [go_sem, Nat.reduceEqDiff, reduceIte, Nat.reduceAdd, Nat.reduceMul, Nat.reduceLeDiff, Nat.reduceLT]
    refine draw_i [] .fin (by kernel_rfl) ?_
    try simp only [go_sem, Nat.reduceEqDiff, reduceIte, Nat.reduceAdd, Nat.reduceMul, Nat.reduceLeDiff, Nat.reduceLT]
    replace h := bindE h
    obtain ⟨v11002, hv11002, h⟩ := h
    refine call_i (l_toCore_ok fuel _ _ hv11002) ?_
    try simp only [go_sem, Nat.reduceEqDiff, reduceIte, Nat.reduceAdd, Nat.reduceMul, Nat.reduceLeDiff, Nat.reduceLT]
    replace h := bindE h
    obtain ⟨v11003, hv11003, h⟩ := h
    refine call_i (l_eqCore_ok fuel _ _ _ hv11003) ?_
    try simp only [go_sem, Nat.reduceEqDiff, reduceIte, Nat.reduceAdd, Nat.reduceMul, Nat.reduceLeDiff, Nat.reduceLT]
    refine seq_go ?_
    try simp only [go_sem, Nat.reduceEqDiff, reduceIte, Nat.reduceAdd, Nat.reduceMul, Nat.reduceLeDiff, Nat.reduceLT]
    refine cond_i (fun hb4 => ?_) (fun hb4 => ?_)
    · replace h := ifT (c := (!v11003)) hb4 h
      try simp only [go_sem, Nat.reduceEqDiff, reduceIte, Nat.reduceAdd, Nat.reduceMul, Nat.reduceLeDiff, Nat.reduceLT]
      replace h := Option.some.inj h
      obtain rfl := h
      simp only [go_sem, Nat.reduceEqDiff, reduceIte, Nat.reduceAdd, Nat.reduceMul, Nat.reduceLeDiff, Nat.reduceLT]
    · replace h := ifF (c := (!v11003)) hb4 h
      try simp only [go_sem, Nat.reduceEqDiff, reduceIte, Nat.reduceAdd, Nat.reduceMul, Nat.reduceLeDiff, Nat.reduceLT]
      refine seq_go ?_
      try simp only [go_sem, Nat.reduceEqDiff, reduceIte, Nat.reduceAdd, Nat.reduceMul, Nat.reduceLeDiff, Nat.reduceLT]
      replace h := bindE h
      obtain ⟨v14002, hv14002, h⟩ := h
      refine call_g ⟨[], [(1, 1000000002), (2, 1000000003)], [], [], [], true⟩ (by kernel_rfl) (l_markCore_ok _ _ (some 1) (some 4) _ hv14002) (by kernel_rfl) ?_
      try simp only [go_sem, Nat.reduceEqDiff, reduceIte, Nat.reduceAdd, Nat.reduceMul, Nat.reduceLeDiff, Nat.reduceLT]
      refine cond_i (fun hb5 => ?_) (fun hb5 => ?_)
      · replace h := ifT (c := (decide (v14002.1 < 0))) hb5 h
        try simp only [go_sem, Nat.reduceEqDiff, reduceIte, Nat.reduceAdd, Nat.reduceMul, Nat.reduceLeDiff, Nat.reduceLT]
        have hj := posF_to rfl rfl (l_FnExactEraseCore_j2_ok a0 v6002 v8001 true _ h)
        refine seq_to hj (.one ⟨_, .done _, [(1000001000, 1000000000), (1000001001, 1000000001), (1000001002, 1000000004), (1000001003, 1000000005)], [(1000001500, 1000000500), (1000001501, 1000000501), (1000001502, 1000000503)], ?_⟩)
        clear hj
        try simp only [go_sem, Nat.reduceEqDiff, reduceIte, Nat.reduceAdd, Nat.reduceMul, Nat.reduceLeDiff, Nat.reduceLT]
      · replace h := ifF (c := (decide (v14002.1 < 0))) hb5 h
        try simp only [go_sem, Nat.reduceEqDiff, reduceIte, Nat.reduceAdd, Nat.reduceMul, Nat.reduceLeDiff, Nat.reduceLT]
        replace h := bindE h
        obtain ⟨v15005, hv15005, h⟩ := h
        refine call_i (l_eqCore_ok fuel _ _ _ hv15005) ?_
        try simp only [go_sem, Nat.reduceEqDiff, reduceIte, Nat.reduceAdd, Nat.reduceMul, Nat.reduceLeDiff, Nat.reduceLT]
        refine cond_i (fun hb6 => ?_) (fun hb6 => ?_)
        · replace h := ifT (c := (!v15005)) hb6 h
          try simp only [go_sem, Nat.reduceEqDiff, reduceIte, Nat.reduceAdd, Nat.reduceMul, Nat.reduceLeDiff, Nat.reduceLT]
          have hj := posF_to rfl rfl (l_FnExactEraseCore_j2_ok a0 v6002 v8001 true _ h)
          refine seq_to hj (.one ⟨_, .done _, [(1000001000, 1000000000), (1000001001, 1000000001), (1000001002, 1000000004), (1000001003, 1000000005)], [(1000001500, 1000000500), (1000001501, 1000000501), (1000001502, 1000000503)], ?_⟩)
          clear hj
          try simp only [go_sem, Nat.reduceEqDiff, reduceIte, Nat.reduceAdd, Nat.reduceMul, Nat.reduceLeDiff, Nat.reduceLT]
        · replace h := ifF (c := (!v15005)) hb6 h
          try simp only [go_sem, Nat.reduceEqDiff, reduceIte, Nat.reduceAdd, Nat.reduceMul, Nat.reduceLeDiff, Nat.reduceLT]
          have hj := posF_to rfl rfl (l_FnExactEraseCore_j2_ok a0 v6002 v8001 (!decide (v8001.2 = v6002.2)) _ h)
          refine seq_to hj (.one ⟨_, .done _, [(1000001000, 1000000000), (1000001001, 1000000001), (1000001002, 1000000004), (1000001003, 1000000005)], [(1000001500, 1000000500), (1000001501, 1000000501), (1000001502, 1000000503)], ?_⟩)
          clear hj
          try simp only [go_sem, Nat.reduceEqDiff, reduceIte, Nat.reduceAdd, Nat.reduceMul, Nat.reduceLeDiff, Nat.reduceLT]
theorem l_FnExactEraseCore_ok (a0 : Core) (r : Bool) (h : l_FnExactEraseCore a0 = some r) : AC Try.prog 4 [.agg (Core.avs a0)] (.bool r) := by
  unfold l_FnExactEraseCore at h
  refine ac_fn mixed Try.func4 rfl rfl rfl (by kernel_rfl) (by kernel_rfl) ?_
  try simp only [go_sem, Nat.reduceEqDiff, reduceIte, Nat.reduceAdd, Nat.reduceMul, Nat.reduceLeDiff, Nat.reduceLT]
  replace h := bindE h
  obtain ⟨v3002, hv3002, h⟩ := h
  refine call_i (l_szCore_ok fuel _ _ _ hv3002) ?_
  try simp only [go_sem, Nat.reduceEqDiff, reduceIte, Nat.reduceAdd, Nat.reduceMul, Nat.reduceLeDiff, Nat.reduceLT]
  refine cond_i (fun hb1 => ?_) (fun hb1 => ?_)
  · replace h := ifT (c := (decide (v3002 < 0))) hb1 h
    try simp only [go_sem, Nat.reduceEqDiff, reduceIte, Nat.reduceAdd, Nat.reduceMul, Nat.reduceLeDiff, Nat.reduceLT]
    replace h := Option.some.inj h
    obtain rfl := h
    simp only [go_sem, Nat.reduceEqDiff, reduceIte, Nat.reduceAdd, Nat.reduceMul, Nat.reduceLeDiff, Nat.reduceLT]
  · replace h := ifF (c := (decide (v3002 < 0))) hb1 h
    try simp only [go_sem, Nat.reduceEqDiff, reduceIte, Nat.reduceAdd, Nat.reduceMul, Nat.reduceLeDiff, Nat.reduceLT]
    refine seq_go ?_
    try simp only [go_sem, Nat.reduceEqDiff, reduceIte, Nat.reduceAdd, Nat.reduceMul, Nat.reduceLeDiff, Nat.reduceLT]
    replace h := bindE h
    obtain ⟨v6001, hv6001, h⟩ := h
    refine call_i (l_toCore_ok fuel _ _ hv6001) ?_
    try simp only [go_sem, Nat.reduceEqDiff, reduceIte, Nat.reduceAdd, Nat.reduceMul, Nat.reduceLeDiff, Nat.reduceLT]
    replace h := bindE h
    obtain ⟨v6002, hv6002, h⟩ := h
    refine call_i (s_EraseCore_ok _ _ hv6002) ?_
    try simp only [go_sem, Nat.reduceEqDiff, reduceIte, Nat.reduceAdd, Nat.reduceMul, Nat.reduceLeDiff, Nat.reduceLT]
    replace h := bindE h
    obtain ⟨v7001, hv7001, h⟩ := h
    refine call_i (l_toCore_ok fuel _ _ hv7001) ?_
    try simp only [go_sem, Nat.reduceEqDiff, reduceIte, Nat.reduceAdd, Nat.reduceMul, Nat.reduceLeDiff, Nat.reduceLT]
    replace h := bindE h
    obtain ⟨v8001, hv8001, h⟩ := h
    refine call_i (i_EraseCore_ok _ _ hv8001) ?_
    try simp only [go_sem, Nat.reduceEqDiff, reduceIte, Nat.reduceAdd, Nat.reduceMul, Nat.reduceLeDiff, Nat.reduceLT]
    replace h := bindE h
    obtain ⟨v9002, hv9002, h⟩ := h
    refine call_i (l_eqCore_ok fuel _ _ _ hv9002) ?_
    try simp only [go_sem, Nat.reduceEqDiff, reduceIte, Nat.reduceAdd, Nat.reduceMul, Nat.reduceLeDiff, Nat.reduceLT]
    refine cond_i (fun hb2 => ?_) (fun hb2 => ?_)
    · replace h := ifT (c := (!v9002)) hb2 h
      try simp only [go_sem, Nat.reduceEqDiff, reduceIte, Nat.reduceAdd, Nat.reduceMul, Nat.reduceLeDiff, Nat.reduceLT]
      have hj := posF_to rfl rfl (l_FnExactEraseCore_j1_ok a0 v6002 v7001 v8001 true _ h)
      refine seq_to hj (.one ⟨_, .done _, [(1000000000, 96032), (1000000001, 96033), (1000000002, 112016), (1000000003, 112017), (1000000004, 128016), (1000000005, 128017)], [(1000000500, 1000), (1000000501, 6006), (1000000502, 7002), (1000000503, 8005)], ?_⟩)
      clear hj
      try simp only [go_sem, Nat.reduceEqDiff, reduceIte, Nat.reduceAdd, Nat.reduceMul, Nat.reduceLeDiff, Nat.reduceLT]
    · replace h := ifF (c := (!v9002)) hb2 h
      try simp only [go_sem, Nat.reduceEqDiff, reduceIte, Nat.reduceAdd, Nat.reduceMul, Nat.reduceLeDiff, Nat.reduceLT]
      have hj := posF_to rfl rfl (l_FnExactEraseCore_j1_ok a0 v6002 v7001 v8001 (!decide (v8001.2 = v6002.2)) _ h)
      refine seq_to hj (.one ⟨_, .done _, [(1000000000, 96032), (1000000001, 96033), (1000000002, 112016), (1000000003, 112017), (1000000004, 128016), (1000000005, 128017)], [(1000000500, 1000), (1000000501, 6006), (1000000502, 7002), (1000000503, 8005)], ?_⟩)
      clear hj
      try simp only [go_sem, Nat.reduceEqDiff, reduceIte, Nat.reduceAdd, Nat.reduceMul, Nat.reduceLeDiff, Nat.reduceLT]
end Go.Proofs.Ytffokcfdkkikmaa.Ab
