/-
  The functions do what their models say. Printed by wip/ab/gen.py.
-/
import Derived.Test.YtffokcfdkkikmaaModF
import Derived.Test.YtffokcfdkkikmaaTi2
import Derived.Test.YtffokcfdkkikmaaWlkE
namespace Go.Proofs.Ytffokcfdkkikmaa.Ab
set_option linter.unusedVariables false
set_option linter.unusedSimpArgs false
set_option maxRecDepth 20000
set_option maxHeartbeats 4000000
open Go.RowKit

theorem s_l08EraseBook_l2_all (n : Nat) : (∀ (a0 : Book) (p1_0 : List Core) (p1_1 : Int) (r : Book × Int), s_l08EraseBook_l2 n a0 p1_0 p1_1 = some r → posF Try.prog Try.f86 [1, 1, 0, 1, 0] (.tup [.agg (Book.rv r.1), .int .i64 r.2]) ⟨[(0, .rop [.ro (List.map Core.ds a0.defs)] 0), (2, .box 1000001500 0), (4, .box 1000001501 0), (5, .int .i64 p1_1)], [(1000001000, some ⟨List.map Core.ds p1_0, some 4, 0⟩)], [(1000001500, some [.nils]), (1000001501, some [.own 1000001000])]⟩) := by
  induction n with
  | zero => exact ((fun _ _ _ _ h => by rw [s_l08EraseBook_l2] at h; cases h))
  | succ n ih =>
    have ih0 := ih
    · intro a0 p1_0 p1_1 r h
      rw [s_l08EraseBook_l2] at h
      refine posF_of rfl rfl ?_
      try simp only [go_sem, Nat.reduceEqDiff, reduceIte, Nat.reduceAdd, Nat.reduceMul, Nat.reduceLeDiff, Nat.reduceLT]
      refine loop_i ?_
      try simp only [go_sem, Nat.reduceEqDiff, reduceIte, Nat.reduceAdd, Nat.reduceMul, Nat.reduceLeDiff, Nat.reduceLT]
      refine cond_i (fun hb1 => ?_) (fun hb1 => ?_)
      · replace h := ifT (c := (decide (p1_1 < ((List.length a0.defs : Nat) : Int)))) hb1 h
        try simp only [go_sem, Nat.reduceEqDiff, reduceIte, Nat.reduceAdd, Nat.reduceMul, Nat.reduceLeDiff, Nat.reduceLT]
        refine seq_go ?_
        try simp only [go_sem, Nat.reduceEqDiff, reduceIte, Nat.reduceAdd, Nat.reduceMul, Nat.reduceLeDiff, Nat.reduceLT]
        replace h := bindE h
        obtain ⟨v6005, hv6005, h⟩ := h
        refine idx_m hv6005 (Core.ds_len _) ?_
        try simp only [go_sem, Nat.reduceEqDiff, reduceIte, Nat.reduceAdd, Nat.reduceMul, Nat.reduceLeDiff, Nat.reduceLT]
        replace h := bindE h
        obtain ⟨v6006, hv6006, h⟩ := h
        refine call_g ⟨[], [], [], [(1501, 96096), (1502, 96097)], [], true⟩ (by kernel_rfl) (s_l08Erase_ok fuel _ _ hv6006) (by kernel_rfl) ?_
        try simp only [go_sem, Nat.reduceEqDiff, reduceIte, Nat.reduceAdd, Nat.reduceMul, Nat.reduceLeDiff, Nat.reduceLT]
        refine cond_i (fun hb2 => ?_) (fun hb2 => ?_)
        · replace h := ifT (c := (!decide (v6006.2 = 0))) hb2 h
          try simp only [go_sem, Nat.reduceEqDiff, reduceIte, Nat.reduceAdd, Nat.reduceMul, Nat.reduceLeDiff, Nat.reduceLT]
          replace h := Option.some.inj h
          obtain rfl := h
          simp only [go_sem, Nat.reduceEqDiff, reduceIte, Nat.reduceAdd, Nat.reduceMul, Nat.reduceLeDiff, Nat.reduceLT]
        · replace h := ifF (c := (!decide (v6006.2 = 0))) hb2 h
          try simp only [go_sem, Nat.reduceEqDiff, reduceIte, Nat.reduceAdd, Nat.reduceMul, Nat.reduceLeDiff, Nat.reduceLT]
          refine seq_go ?_
          try simp only [go_sem, Nat.reduceEqDiff, reduceIte, Nat.reduceAdd, Nat.reduceMul, Nat.reduceLeDiff, Nat.reduceLT]
          replace h := bindE h
          obtain ⟨v9004, hv9004, h⟩ := h
          have hq_ := app_some hv9004
          obtain ⟨hv9004a, hv9004b⟩ := hq_
          refine and_i (by refine ⟨?_, ?_⟩ <;> (try simp only [List.length_map, List.length_append, List.length_cons, List.length_nil] at *) <;> (try unfold maxLen) <;> omega) ?_
          try simp only [go_sem, Nat.reduceEqDiff, reduceIte, Nat.reduceAdd, Nat.reduceMul, Nat.reduceLeDiff, Nat.reduceLT]
          refine row_i (List.map Core.ds v9004) (by rw [← hv9004b]; simp only [List.map_append, List.map_cons, List.map_nil, List.nil_append, List.append_nil, go_sem, Core.ds_eq]) ?_
          try simp only [go_sem, Nat.reduceEqDiff, reduceIte, Nat.reduceAdd, Nat.reduceMul, Nat.reduceLeDiff, Nat.reduceLT]
          refine seq_go ?_
          try simp only [go_sem, Nat.reduceEqDiff, reduceIte, Nat.reduceAdd, Nat.reduceMul, Nat.reduceLeDiff, Nat.reduceLT]
          have hj := posF_to rfl rfl (ih0 a0 v9004 (IntKind.i64.wrap (p1_1 + 1)) _ h)
          refine lp_to hj (.one ⟨_, .done _, [(1000001000, 144064)], [(1000001500, 1000001500), (1000001501, 1000001501)], ?_⟩)
          clear hj
          try simp only [go_sem, Nat.reduceEqDiff, reduceIte, Nat.reduceAdd, Nat.reduceMul, Nat.reduceLeDiff, Nat.reduceLT]
      · replace h := ifF (c := (decide (p1_1 < ((List.length a0.defs : Nat) : Int)))) hb1 h
        try simp only [go_sem, Nat.reduceEqDiff, reduceIte, Nat.reduceAdd, Nat.reduceMul, Nat.reduceLeDiff, Nat.reduceLT]
        refine seq_go ?_
        try simp only [go_sem, Nat.reduceEqDiff, reduceIte, Nat.reduceAdd, Nat.reduceMul, Nat.reduceLeDiff, Nat.reduceLT]
        replace h := Option.some.inj h
        obtain rfl := h
        simp only [go_sem, Nat.reduceEqDiff, reduceIte, Nat.reduceAdd, Nat.reduceMul, Nat.reduceLeDiff, Nat.reduceLT]
theorem s_l08EraseBook_l2_ok (n : Nat) : (∀ (a0 : Book) (p1_0 : List Core) (p1_1 : Int) (r : Book × Int), s_l08EraseBook_l2 n a0 p1_0 p1_1 = some r → posF Try.prog Try.f86 [1, 1, 0, 1, 0] (.tup [.agg (Book.rv r.1), .int .i64 r.2]) ⟨[(0, .rop [.ro (List.map Core.ds a0.defs)] 0), (2, .box 1000001500 0), (4, .box 1000001501 0), (5, .int .i64 p1_1)], [(1000001000, some ⟨List.map Core.ds p1_0, some 4, 0⟩)], [(1000001500, some [.nils]), (1000001501, some [.own 1000001000])]⟩) := (s_l08EraseBook_l2_all n)

theorem s_l08EraseBook_ok (a0 : Book) (r : Book × Int) (h : s_l08EraseBook a0 = some r) : AC Try.prog 86 [.rop (Book.avs a0) 0] (.tup [.agg (Book.rv r.1), .int .i64 r.2]) := by
  unfold s_l08EraseBook at h
  refine ac_fn mixed Try.func86 rfl rfl rfl (by kernel_rfl) (by kernel_rfl) ?_
  try simp only [go_sem, Nat.reduceEqDiff, reduceIte, Nat.reduceAdd, Nat.reduceMul, Nat.reduceLeDiff, Nat.reduceLT]
  have hj := posF_to rfl rfl (s_l08EraseBook_l2_ok fuel a0 [] 0 _ h)
  refine loop_to hj (.one ⟨_, .cell 2001 0 2000000000 (some 4) _ (by simp only [go_sem, Nat.reduceEqDiff, reduceIte, Nat.reduceAdd, Nat.reduceMul, Nat.reduceLeDiff, Nat.reduceLT]; rfl) (by rfl) (by simp only [go_sem, Nat.reduceEqDiff, reduceIte, Nat.reduceAdd, Nat.reduceMul, Nat.reduceLeDiff, Nat.reduceLT]) (.done _), [(1000001000, 2000000000)], [(1000001500, 1000), (1000001501, 2001)], ?_⟩)
  clear hj
  simp only [go_sem, Nat.reduceEqDiff, reduceIte, Nat.reduceAdd, Nat.reduceMul, Nat.reduceLeDiff, Nat.reduceLT]
theorem s_EraseBook_ok (a0 : Book) (r : Book × Int) (h : s_EraseBook a0 = some r) : AC Try.prog 25 [.agg (Book.avs a0)] (.tup [.agg (Book.rv r.1), .int .i64 r.2]) := by
  unfold s_EraseBook at h
  refine ac_fn mixed Try.func25 rfl rfl rfl (by kernel_rfl) (by kernel_rfl) ?_
  try simp only [go_sem, Nat.reduceEqDiff, reduceIte, Nat.reduceAdd, Nat.reduceMul, Nat.reduceLeDiff, Nat.reduceLT]
  replace h := bindE h
  obtain ⟨v2000, hv2000, h⟩ := h
  refine call_i (s_l06Book_ok _ _ hv2000) ?_
  try simp only [go_sem, Nat.reduceEqDiff, reduceIte, Nat.reduceAdd, Nat.reduceMul, Nat.reduceLeDiff, Nat.reduceLT]
  refine cond_i (fun hb1 => ?_) (fun hb1 => ?_)
  · replace h := ifT (c := (!v2000)) hb1 h
    try simp only [go_sem, Nat.reduceEqDiff, reduceIte, Nat.reduceAdd, Nat.reduceMul, Nat.reduceLeDiff, Nat.reduceLT]
    replace h := Option.some.inj h
    obtain rfl := h
    simp only [go_sem, Nat.reduceEqDiff, reduceIte, Nat.reduceAdd, Nat.reduceMul, Nat.reduceLeDiff, Nat.reduceLT]
  · replace h := ifF (c := (!v2000)) hb1 h
    try simp only [go_sem, Nat.reduceEqDiff, reduceIte, Nat.reduceAdd, Nat.reduceMul, Nat.reduceLeDiff, Nat.reduceLT]
    refine seq_go ?_
    try simp only [go_sem, Nat.reduceEqDiff, reduceIte, Nat.reduceAdd, Nat.reduceMul, Nat.reduceLeDiff, Nat.reduceLT]
    replace h := bindE h
    obtain ⟨v4000, hv4000, h⟩ := h
    refine call_i (s_l08EraseBook_ok _ _ hv4000) ?_
    try simp only [go_sem, Nat.reduceEqDiff, reduceIte, Nat.reduceAdd, Nat.reduceMul, Nat.reduceLeDiff, Nat.reduceLT]
    replace h := Option.some.inj h
    obtain rfl := h
    simp only [go_sem, Nat.reduceEqDiff, reduceIte, Nat.reduceAdd, Nat.reduceMul, Nat.reduceLeDiff, Nat.reduceLT]
theorem i_EraseBook_l2_all (n : Nat) : (∀ (a0 : Book) (p1_0 : List Core) (p1_1 : Int) (r : Book × Int), i_EraseBook_l2 n a0 p1_0 p1_1 = some r → posF Try.prog Try.f27 [1, 1, 1, 0, 1, 0] (.tup [.agg (Book.rv r.1), .int .i64 r.2]) ⟨[(2, .box 1000001500 0), (4, .box 1000001501 0), (14, .ro (List.map Core.ds a0.defs)), (15, .int .i64 ((List.length a0.defs : Nat) : Int)), (16, .int .i64 p1_1)], [(1000001000, some ⟨List.map Core.ds p1_0, some 4, 0⟩)], [(1000001500, some [.nils]), (1000001501, some [.own 1000001000])]⟩) := by
  induction n with
  | zero => exact ((fun _ _ _ _ h => by rw [i_EraseBook_l2] at h; cases h))
  | succ n ih =>
    have ih0 := ih
    · intro a0 p1_0 p1_1 r h
      rw [i_EraseBook_l2] at h
      refine posF_of rfl rfl ?_
      try simp only [go_sem, Nat.reduceEqDiff, reduceIte, Nat.reduceAdd, Nat.reduceMul, Nat.reduceLeDiff, Nat.reduceLT]
      refine loop_i ?_
      try simp only [go_sem, Nat.reduceEqDiff, reduceIte, Nat.reduceAdd, Nat.reduceMul, Nat.reduceLeDiff, Nat.reduceLT]
      refine cond_i (fun hb2 => ?_) (fun hb2 => ?_)
      · replace h := ifT (c := (decide (p1_1 < ((List.length a0.defs : Nat) : Int)))) hb2 h
        try simp only [go_sem, Nat.reduceEqDiff, reduceIte, Nat.reduceAdd, Nat.reduceMul, Nat.reduceLeDiff, Nat.reduceLT]
        refine seq_go ?_
        try simp only [go_sem, Nat.reduceEqDiff, reduceIte, Nat.reduceAdd, Nat.reduceMul, Nat.reduceLeDiff, Nat.reduceLT]
        replace h := bindE h
        obtain ⟨v7000, hv7000, h⟩ := h
        refine idx_m hv7000 (Core.ds_len _) ?_
        try simp only [go_sem, Nat.reduceEqDiff, reduceIte, Nat.reduceAdd, Nat.reduceMul, Nat.reduceLeDiff, Nat.reduceLT]
        replace h := bindE h
        obtain ⟨v8001, hv8001, h⟩ := h
        refine call_i (i_EraseCore_ok _ _ hv8001) ?_
        try simp only [go_sem, Nat.reduceEqDiff, reduceIte, Nat.reduceAdd, Nat.reduceMul, Nat.reduceLeDiff, Nat.reduceLT]
        refine cond_i (fun hb3 => ?_) (fun hb3 => ?_)
        · replace h := ifT (c := (!decide (v8001.2 = 0))) hb3 h
          try simp only [go_sem, Nat.reduceEqDiff, reduceIte, Nat.reduceAdd, Nat.reduceMul, Nat.reduceLeDiff, Nat.reduceLT]
          replace h := Option.some.inj h
          obtain rfl := h
          simp only [go_sem, Nat.reduceEqDiff, reduceIte, Nat.reduceAdd, Nat.reduceMul, Nat.reduceLeDiff, Nat.reduceLT]
        · replace h := ifF (c := (!decide (v8001.2 = 0))) hb3 h
          try simp only [go_sem, Nat.reduceEqDiff, reduceIte, Nat.reduceAdd, Nat.reduceMul, Nat.reduceLeDiff, Nat.reduceLT]
          refine seq_go ?_
          try simp only [go_sem, Nat.reduceEqDiff, reduceIte, Nat.reduceAdd, Nat.reduceMul, Nat.reduceLeDiff, Nat.reduceLT]
          replace h := bindE h
          obtain ⟨v11004, hv11004, h⟩ := h
          have hq_ := app_some hv11004
          obtain ⟨hv11004a, hv11004b⟩ := hq_
          refine and_i (by refine ⟨?_, ?_⟩ <;> (try simp only [List.length_map, List.length_append, List.length_cons, List.length_nil] at *) <;> (try unfold maxLen) <;> omega) ?_
          try simp only [go_sem, Nat.reduceEqDiff, reduceIte, Nat.reduceAdd, Nat.reduceMul, Nat.reduceLeDiff, Nat.reduceLT]
          refine row_i (List.map Core.ds v11004) (by rw [← hv11004b]; simp only [List.map_append, List.map_cons, List.map_nil, List.nil_append, List.append_nil, go_sem, Core.ds_eq]) ?_
          try simp only [go_sem, Nat.reduceEqDiff, reduceIte, Nat.reduceAdd, Nat.reduceMul, Nat.reduceLeDiff, Nat.reduceLT]
          refine seq_go ?_
          try simp only [go_sem, Nat.reduceEqDiff, reduceIte, Nat.reduceAdd, Nat.reduceMul, Nat.reduceLeDiff, Nat.reduceLT]
          have hj := posF_to rfl rfl (ih0 a0 v11004 (IntKind.i64.wrap (p1_1 + 1)) _ h)
          refine lp_to hj (.one ⟨_, .done _, [(1000001000, 176064)], [(1000001500, 1000001500), (1000001501, 1000001501)], ?_⟩)
          clear hj
          try simp only [go_sem, Nat.reduceEqDiff, reduceIte, Nat.reduceAdd, Nat.reduceMul, Nat.reduceLeDiff, Nat.reduceLT]
      · replace h := ifF (c := (decide (p1_1 < ((List.length a0.defs : Nat) : Int)))) hb2 h
        try simp only [go_sem, Nat.reduceEqDiff, reduceIte, Nat.reduceAdd, Nat.reduceMul, Nat.reduceLeDiff, Nat.reduceLT]
        refine seq_go ?_
        try simp only [go_sem, Nat.reduceEqDiff, reduceIte, Nat.reduceAdd, Nat.reduceMul, Nat.reduceLeDiff, Nat.reduceLT]
        replace h := Option.some.inj h
        obtain rfl := h
        simp only [go_sem, Nat.reduceEqDiff, reduceIte, Nat.reduceAdd, Nat.reduceMul, Nat.reduceLeDiff, Nat.reduceLT]
theorem i_EraseBook_l2_ok (n : Nat) : (∀ (a0 : Book) (p1_0 : List Core) (p1_1 : Int) (r : Book × Int), i_EraseBook_l2 n a0 p1_0 p1_1 = some r → posF Try.prog Try.f27 [1, 1, 1, 0, 1, 0] (.tup [.agg (Book.rv r.1), .int .i64 r.2]) ⟨[(2, .box 1000001500 0), (4, .box 1000001501 0), (14, .ro (List.map Core.ds a0.defs)), (15, .int .i64 ((List.length a0.defs : Nat) : Int)), (16, .int .i64 p1_1)], [(1000001000, some ⟨List.map Core.ds p1_0, some 4, 0⟩)], [(1000001500, some [.nils]), (1000001501, some [.own 1000001000])]⟩) := (i_EraseBook_l2_all n)

theorem i_EraseBook_ok (a0 : Book) (r : Book × Int) (h : i_EraseBook a0 = some r) : AC Try.prog 27 [.agg (Book.avs a0)] (.tup [.agg (Book.rv r.1), .int .i64 r.2]) := by
  unfold i_EraseBook at h
  refine ac_fn mixed Try.func27 rfl rfl rfl (by kernel_rfl) (by kernel_rfl) ?_
  try simp only [go_sem, Nat.reduceEqDiff, reduceIte, Nat.reduceAdd, Nat.reduceMul, Nat.reduceLeDiff, Nat.reduceLT]
  replace h := bindE h
  obtain ⟨v2001, hv2001, h⟩ := h
  refine call_i (i_ValidBook_ok _ _ hv2001) ?_
  try simp only [go_sem, Nat.reduceEqDiff, reduceIte, Nat.reduceAdd, Nat.reduceMul, Nat.reduceLeDiff, Nat.reduceLT]
  refine cond_i (fun hb1 => ?_) (fun hb1 => ?_)
  · replace h := ifT (c := (!v2001)) hb1 h
    try simp only [go_sem, Nat.reduceEqDiff, reduceIte, Nat.reduceAdd, Nat.reduceMul, Nat.reduceLeDiff, Nat.reduceLT]
    replace h := Option.some.inj h
    obtain rfl := h
    simp only [go_sem, Nat.reduceEqDiff, reduceIte, Nat.reduceAdd, Nat.reduceMul, Nat.reduceLeDiff, Nat.reduceLT]
  · replace h := ifF (c := (!v2001)) hb1 h
    try simp only [go_sem, Nat.reduceEqDiff, reduceIte, Nat.reduceAdd, Nat.reduceMul, Nat.reduceLeDiff, Nat.reduceLT]
    refine seq_go ?_
    try simp only [go_sem, Nat.reduceEqDiff, reduceIte, Nat.reduceAdd, Nat.reduceMul, Nat.reduceLeDiff, Nat.reduceLT]
    have hj := posF_to rfl rfl (i_EraseBook_l2_ok fuel a0 [] 0 _ h)
    refine loop_to hj (.one ⟨_, .cell 4000 0 2000000000 (some 4) _ (by simp only [go_sem, Nat.reduceEqDiff, reduceIte, Nat.reduceAdd, Nat.reduceMul, Nat.reduceLeDiff, Nat.reduceLT]; rfl) (by rfl) (by simp only [go_sem, Nat.reduceEqDiff, reduceIte, Nat.reduceAdd, Nat.reduceMul, Nat.reduceLeDiff, Nat.reduceLT]) (.done _), [(1000001000, 2000000000)], [(1000001500, 1001), (1000001501, 4000)], ?_⟩)
    clear hj
    simp only [go_sem, Nat.reduceEqDiff, reduceIte, Nat.reduceAdd, Nat.reduceMul, Nat.reduceLeDiff, Nat.reduceLT]
theorem l_markBook_ok (a0 : Book) (a1 : Int) (z1 : Option Nat) (r : Int × (List Core)) (h : l_markBook a0 a1 = some r) : AG Try.prog 29 [.agg [.own 1], .int .i64 a1] [(1, ⟨List.map Core.ds a0.defs, z1, 0⟩)] [] (.int .i64 r.1) [(1, ⟨List.map Core.ds r.2, z1, 0⟩)] [] := by
  unfold l_markBook at h
  refine ag_fn mixed Try.func29 rfl rfl rfl (by kernel_rfl) (by kernel_rfl) ?_
  try simp only [go_sem, Nat.reduceEqDiff, reduceIte, Nat.reduceAdd, Nat.reduceMul, Nat.reduceLeDiff, Nat.reduceLT]
  replace h := bindE h
  obtain ⟨v2003, hv2003, h⟩ := h
  refine call_g ⟨[], [(1, 1)], [], [], [], true⟩ (by kernel_rfl) (l_markCoreS_ok fuel _ _ z1 _ hv2003) (by kernel_rfl) ?_
  try simp only [go_sem, Nat.reduceEqDiff, reduceIte, Nat.reduceAdd, Nat.reduceMul, Nat.reduceLeDiff, Nat.reduceLT]
  replace h := Option.some.inj h
  obtain rfl := h
  refine ret_i (.done _) [(1, 1)] [] ?_
  simp only [go_sem, Nat.reduceEqDiff, reduceIte, Nat.reduceAdd, Nat.reduceMul, Nat.reduceLeDiff, Nat.reduceLT]
theorem l_heldBook_ok (a0 : Book) (a1 : Int) (r : Int) (h : l_heldBook a0 a1 = some r) : AC Try.prog 30 [.agg (Book.avs a0), .int .i64 a1] (.int .i64 r) := by
  unfold l_heldBook at h
  refine ac_fn mixed Try.func30 rfl rfl rfl (by kernel_rfl) (by kernel_rfl) ?_
  try simp only [go_sem, Nat.reduceEqDiff, reduceIte, Nat.reduceAdd, Nat.reduceMul, Nat.reduceLeDiff, Nat.reduceLT]
  replace h := bindE h
  obtain ⟨v2003, hv2003, h⟩ := h
  refine call_i (l_heldCoreS_ok fuel _ _ _ hv2003) ?_
  try simp only [go_sem, Nat.reduceEqDiff, reduceIte, Nat.reduceAdd, Nat.reduceMul, Nat.reduceLeDiff, Nat.reduceLT]
  refine cond_i (fun hb1 => ?_) (fun hb1 => ?_)
  · replace h := ifT (c := (decide (v2003 < 0))) hb1 h
    try simp only [go_sem, Nat.reduceEqDiff, reduceIte, Nat.reduceAdd, Nat.reduceMul, Nat.reduceLeDiff, Nat.reduceLT]
    replace h := Option.some.inj h
    obtain rfl := h
    simp only [go_sem, Nat.reduceEqDiff, reduceIte, Nat.reduceAdd, Nat.reduceMul, Nat.reduceLeDiff, Nat.reduceLT]
  · replace h := ifF (c := (decide (v2003 < 0))) hb1 h
    try simp only [go_sem, Nat.reduceEqDiff, reduceIte, Nat.reduceAdd, Nat.reduceMul, Nat.reduceLeDiff, Nat.reduceLT]
    refine seq_go ?_
    try simp only [go_sem, Nat.reduceEqDiff, reduceIte, Nat.reduceAdd, Nat.reduceMul, Nat.reduceLeDiff, Nat.reduceLT]
    replace h := Option.some.inj h
    obtain rfl := h
    simp only [go_sem, Nat.reduceEqDiff, reduceIte, Nat.reduceAdd, Nat.reduceMul, Nat.reduceLeDiff, Nat.reduceLT]
theorem l_FnExactEraseBook_j3_ok (v18002 : Int × (List Core)) (p2_0 : Bool) (r : Bool) (h : l_FnExactEraseBook_j3 v18002 p2_0 = some r) : posF Try.prog Try.f5 [1, 1, 1, 1, 1, 1, 1, 1, 1, 1, 1, 1, 1, 1, 1, 1, 1, 1, 1, 0, 1] (.bool r) ⟨[(7, .box 1000002500 0), (10, .int .i64 v18002.1), (87, .bool p2_0)], [(1000002000, some ⟨List.map Core.ds v18002.2, some 4, 0⟩)], [(1000002500, some [.own 1000002000])]⟩ := by
  unfold l_FnExactEraseBook_j3 at h
  refine posF_of rfl rfl ?_
  try simp only [go_sem, Nat.reduceEqDiff, reduceIte, Nat.reduceAdd, Nat.reduceMul, Nat.reduceLeDiff, Nat.reduceLT]
  refine cond_i (fun hb11 => ?_) (fun hb11 => ?_)
  · replace h := ifT (c := p2_0) hb11 h
    try simp only [go_sem, Nat.reduceEqDiff, reduceIte, Nat.reduceAdd, Nat.reduceMul, Nat.reduceLeDiff, Nat.reduceLT]
    replace h := Option.some.inj h
    obtain rfl := h
    simp only [go_sem, Nat.reduceEqDiff, reduceIte, Nat.reduceAdd, Nat.reduceMul, Nat.reduceLeDiff, Nat.reduceLT]
  · replace h := ifF (c := p2_0) hb11 h
    try simp only [go_sem, Nat.reduceEqDiff, reduceIte, Nat.reduceAdd, Nat.reduceMul, Nat.reduceLeDiff, Nat.reduceLT]
    refine seq_go ?_
    try simp only [go_sem, Nat.reduceEqDiff, reduceIte, Nat.reduceAdd, Nat.reduceMul, Nat.reduceLeDiff, Nat.reduceLT]
    replace h := bindE h
    obtain ⟨v29002, hv29002, h⟩ := h
    refine call_i (l_heldBook_ok _ _ _ hv29002) ?_
    try simp only [go_sem, Nat.reduceEqDiff, reduceIte, Nat.reduceAdd, Nat.reduceMul, Nat.reduceLeDiff, Nat.reduceLT]
    refine cond_i (fun hb12 => ?_) (fun hb12 => ?_)
    · replace h := ifT (c := (decide (v29002 < 0))) hb12 h
      try simp only [go_sem, Nat.reduceEqDiff, reduceIte, Nat.reduceAdd, Nat.reduceMul, Nat.reduceLeDiff, Nat.reduceLT]
      replace h := Option.some.inj h
      obtain rfl := h
      simp only [go_sem, Nat.reduceEqDiff, reduceIte, Nat.reduceAdd, Nat.reduceMul, Nat.reduceLeDiff, Nat.reduceLT]
    · replace h := ifF (c := (decide (v29002 < 0))) hb12 h
      try simp only [go_sem, Nat.reduceEqDiff, reduceIte, Nat.reduceAdd, Nat.reduceMul, Nat.reduceLeDiff, Nat.reduceLT]
      refine seq_go ?_
      try simp only [go_sem, Nat.reduceEqDiff, reduceIte, Nat.reduceAdd, Nat.reduceMul, Nat.reduceLeDiff, Nat.reduceLT]
      refine cond_i (fun hb13 => ?_) (fun hb13 => ?_)
      · replace h := ifT (c := (!decide (v29002 = v18002.1))) hb13 h
        try simp only [go_sem, Nat.reduceEqDiff, reduceIte, Nat.reduceAdd, Nat.reduceMul, Nat.reduceLeDiff, Nat.reduceLT]
        replace h := Option.some.inj h
        obtain rfl := h
        simp only [go_sem, Nat.reduceEqDiff, reduceIte, Nat.reduceAdd, Nat.reduceMul, Nat.reduceLeDiff, Nat.reduceLT]
      · replace h := ifF (c := (!decide (v29002 = v18002.1))) hb13 h
        try simp only [go_sem, Nat.reduceEqDiff, reduceIte, Nat.reduceAdd, Nat.reduceMul, Nat.reduceLeDiff, Nat.reduceLT]
        refine seq_go ?_
        try simp only [go_sem, Nat.reduceEqDiff, reduceIte, Nat.reduceAdd, Nat.reduceMul, Nat.reduceLeDiff, Nat.reduceLT]
        replace h := Option.some.inj h
        obtain rfl := h
        simp only [go_sem, Nat.reduceEqDiff, reduceIte, Nat.reduceAdd, Nat.reduceMul, Nat.reduceLeDiff, Nat.reduceLT]
theorem l_FnExactEraseBook_j2_ok (a0 : Book) (v6002 : Book × Int) (v8001 : Book × Int) (p1_0 : Bool) (r : Bool) (h : l_FnExactEraseBook_j2 a0 v6002 v8001 p1_0 = some r) : posF Try.prog Try.f5 [1, 1, 1, 1, 1, 1, 1, 1, 1, 1, 1, 0, 1] (.bool r) ⟨[(1, .box 1000001500 0), (4, .box 1000001501 0), (5, .int .i64 v6002.2), (7, .box 1000001502 0), (61, .bool p1_0)], [(1000001000, some ⟨List.map Core.ds v6002.1.defs, some 4, 0⟩), (1000001001, some ⟨List.map Core.ds v8001.1.defs, some 4, 0⟩)], [(1000001500, some [.ro (List.map Core.ds a0.defs)]), (1000001501, some [.own 1000001000]), (1000001502, some [.own 1000001001])]⟩ := by
  unfold l_FnExactEraseBook_j2 at h
  refine posF_of rfl rfl ?_
  try simp only [go_sem, Nat.reduceEqDiff, reduceIte, Nat.reduceAdd, Nat.reduceMul, Nat.reduceLeDiff, Nat.reduceLT]
  refine cond_i (fun hb7 => ?_) (fun hb7 => ?_)
  · replace h := ifT (c := p1_0) hb7 h
    try simp only [go_sem, Nat.reduceEqDiff, reduceIte, Nat.reduceAdd, Nat.reduceMul, Nat.reduceLeDiff, Nat.reduceLT]
    replace h := Option.some.inj h
    obtain rfl := h
    simp only [go_sem, Nat.reduceEqDiff, reduceIte, Nat.reduceAdd, Nat.reduceMul, Nat.reduceLeDiff, Nat.reduceLT]
  · replace h := ifF (c := p1_0) hb7 h
    try simp only [go_sem, Nat.reduceEqDiff, reduceIte, Nat.reduceAdd, Nat.reduceMul, Nat.reduceLeDiff, Nat.reduceLT]
    refine seq_go ?_
    try simp only [go_sem, Nat.reduceEqDiff, reduceIte, Nat.reduceAdd, Nat.reduceMul, Nat.reduceLeDiff, Nat.reduceLT]
    replace h := bindE h
    obtain ⟨v18002, hv18002, h⟩ := h
    refine call_g ⟨[], [(1, 1000001001)], [], [], [], true⟩ (by kernel_rfl) (l_markBook_ok _ _ (some 4) _ hv18002) (by kernel_rfl) ?_
    try simp only [go_sem, Nat.reduceEqDiff, reduceIte, Nat.reduceAdd, Nat.reduceMul, Nat.reduceLeDiff, Nat.reduceLT]
    replace h := bindE h
    obtain ⟨v20002, hv20002, h⟩ := h
    refine call_i (l_heldBook_ok _ _ _ hv20002) ?_
    try simp only [go_sem, Nat.reduceEqDiff, reduceIte, Nat.reduceAdd, Nat.reduceMul, Nat.reduceLeDiff, Nat.reduceLT]
    refine cond_i (fun hb8 => ?_) (fun hb8 => ?_)
    · replace h := ifT (c := (decide (v20002 < 0))) hb8 h
      try simp only [go_sem, Nat.reduceEqDiff, reduceIte, Nat.reduceAdd, Nat.reduceMul, Nat.reduceLeDiff, Nat.reduceLT]
      replace h := Option.some.inj h
      obtain rfl := h
      simp only [go_sem, Nat.reduceEqDiff, reduceIte, Nat.reduceAdd, Nat.reduceMul, Nat.reduceLeDiff, Nat.reduceLT]
    · replace h := ifF (c := (decide (v20002 < 0))) hb8 h
      try simp only [go_sem, Nat.reduceEqDiff, reduceIte, Nat.reduceAdd, Nat.reduceMul, Nat.reduceLeDiff, Nat.reduceLT]
      refine seq_go ?_
      try simp only [go_sem, Nat.reduceEqDiff, reduceIte, Nat.reduceAdd, Nat.reduceMul, Nat.reduceLeDiff, Nat.reduceLT]
      refine cond_i (fun hb9 => ?_) (fun hb9 => ?_)
      · replace h := ifT (c := (!decide (v20002 = v18002.1))) hb9 h
        try simp only [go_sem, Nat.reduceEqDiff, reduceIte, Nat.reduceAdd, Nat.reduceMul, Nat.reduceLeDiff, Nat.reduceLT]
        replace h := Option.some.inj h
        obtain rfl := h
        simp only [go_sem, Nat.reduceEqDiff, reduceIte, Nat.reduceAdd, Nat.reduceMul, Nat.reduceLeDiff, Nat.reduceLT]
      · replace h := ifF (c := (!decide (v20002 = v18002.1))) hb9 h
        try simp only [go_sem, Nat.reduceEqDiff, reduceIte, Nat.reduceAdd, Nat.reduceMul, Nat.reduceLeDiff, Nat.reduceLT]
        refine seq_go ?_
        try simp only [go_sem, Nat.reduceEqDiff, reduceIte, Nat.reduceAdd, Nat.reduceMul, Nat.reduceLeDiff, Nat.reduceLT]
        replace h := bindE h
        obtain ⟨v25001, hv25001, h⟩ := h
        refine call_i (l_toBook_ok _ _ hv25001) ?_
        try simp only [go_sem, Nat.reduceEqDiff, reduceIte, Nat.reduceAdd, Nat.reduceMul, Nat.reduceLeDiff, Nat.reduceLT]
        replace h := bindE h
        obtain ⟨v25002, hv25002, h⟩ := h
        refine call_i (i_EraseBook_ok _ _ hv25002) ?_
        try simp only [go_sem, Nat.reduceEqDiff, reduceIte, Nat.reduceAdd, Nat.reduceMul, Nat.reduceLeDiff, Nat.reduceLT]
        replace h := bindE h
        obtain ⟨v26002, hv26002, h⟩ := h
        refine call_i (l_eqBook_ok _ _ _ hv26002) ?_
        try simp only [go_sem, Nat.reduceEqDiff, reduceIte, Nat.reduceAdd, Nat.reduceMul, Nat.reduceLeDiff, Nat.reduceLT]
        refine cond_i (fun hb10 => ?_) (fun hb10 => ?_)
        · replace h := ifT (c := (!v26002)) hb10 h
          try simp only [go_sem, Nat.reduceEqDiff, reduceIte, Nat.reduceAdd, Nat.reduceMul, Nat.reduceLeDiff, Nat.reduceLT]
          have hj := posF_to rfl rfl (l_FnExactEraseBook_j3_ok v18002 true _ h)
          refine seq_to hj (.one ⟨_, .done _, [(1000002000, 1000001001)], [(1000002500, 1000001502)], ?_⟩)
          clear hj
          try simp only [go_sem, Nat.reduceEqDiff, reduceIte, Nat.reduceAdd, Nat.reduceMul, Nat.reduceLeDiff, Nat.reduceLT]
        · replace h := ifF (c := (!v26002)) hb10 h
          try simp only [go_sem, Nat.reduceEqDiff, reduceIte, Nat.reduceAdd, Nat.reduceMul, Nat.reduceLeDiff, Nat.reduceLT]
          have hj := posF_to rfl rfl (l_FnExactEraseBook_j3_ok v18002 (!decide (v25002.2 = v6002.2)) _ h)
          refine seq_to hj (.one ⟨_, .done _, [(1000002000, 1000001001)], [(1000002500, 1000001502)], ?_⟩)
          clear hj
          try simp only [go_sem, Nat.reduceEqDiff, reduceIte, Nat.reduceAdd, Nat.reduceMul, Nat.reduceLeDiff, Nat.reduceLT]
theorem l_FnExactEraseBook_j1_ok (a0 : Book) (v6002 : Book × Int) (v7001 : Book) (v8001 : Book × Int) (p0_0 : Bool) (r : Bool) (h : l_FnExactEraseBook_j1 a0 v6002 v7001 v8001 p0_0 = some r) : posF Try.prog Try.f5 [1, 1, 1, 1, 1, 1, 1, 0, 1] (.bool r) ⟨[(1, .box 1000000500 0), (4, .box 1000000501 0), (5, .int .i64 v6002.2), (6, .box 1000000502 0), (7, .box 1000000503 0), (8, .int .i64 v8001.2), (40, .bool p0_0)], [(1000000000, some ⟨List.map Core.ds v6002.1.defs, some 4, 0⟩), (1000000001, some ⟨List.map Core.ds v7001.defs, some 4, 0⟩), (1000000002, some ⟨List.map Core.ds v8001.1.defs, some 4, 0⟩)], [(1000000500, some [.ro (List.map Core.ds a0.defs)]), (1000000501, some [.own 1000000000]), (1000000502, some [.own 1000000001]), (1000000503, some [.own 1000000002])]⟩ := by
  unfold l_FnExactEraseBook_j1 at h
  refine posF_of rfl rfl ?_
  try simp only [go_sem, Nat.reduceEqDiff, reduceIte, Nat.reduceAdd, Nat.reduceMul, Nat.reduceLeDiff, Nat.reduceLT]
  refine cond_i (fun hb3 => ?_) (fun hb3 => ?_)
  · replace h := ifT (c := p0_0) hb3 h
    try simp only [go_sem, Nat.reduceEqDiff, reduceIte, Nat.reduceAdd, Nat.reduceMul, Nat.reduceLeDiff, Nat.reduceLT]
    replace h := Option.some.inj h
    obtain rfl := h
    simp only [go_sem, Nat.reduceEqDiff, reduceIte, Nat.reduceAdd, Nat.reduceMul, Nat.reduceLeDiff, Nat.reduceLT]
  · replace h := ifF (c := p0_0) hb3 h
    try simp only [go_sem, Nat.reduceEqDiff, reduceIte, Nat.reduceAdd, Nat.reduceMul, Nat.reduceLeDiff, Nat.reduceLT]
    refine seq_go ?_
    try simp only [go_sem, Nat.reduceEqDiff, reduceIte, Nat.reduceAdd, Nat.reduceMul, Nat.reduceLeDiff, Nat.reduceLT]
    refine draw_i [] .fin (by kernel_rfl) ?_
    try simp only [go_sem, Nat.reduceEqDiff, reduceIte, Nat.reduceAdd, Nat.reduceMul, Nat.reduceLeDiff, Nat.reduceLT]
    replace h := bindE h
    obtain ⟨v11002, hv11002, h⟩ := h
    refine call_i (l_toBook_ok _ _ hv11002) ?_
    try simp only [go_sem, Nat.reduceEqDiff, reduceIte, Nat.reduceAdd, Nat.reduceMul, Nat.reduceLeDiff, Nat.reduceLT]
    replace h := bindE h
    obtain ⟨v11003, hv11003, h⟩ := h
    refine call_i (l_eqBook_ok _ _ _ hv11003) ?_
    try simp only [go_sem, Nat.reduceEqDiff, reduceIte, Nat.reduceAdd, Nat.reduceMul, Nat.reduceLeDiff, Nat.reduceLT]
    refine seq_go ?_
    try simp only [go_sem, Nat.reduceEqDiff, reduceIte, Nat.reduceAdd, Nat.reduceMul, Nat.reduceLeDiff, Nat.reduceLT]
    refine cond_i (fun hb4 => ?_) (fun hb4 => ?_)
    · replace h := ifT (c := (!v11003)) hb4 h
      try simp only [go_sem, Nat.reduceEqDiff, reduceIte, Nat.reduceAdd, Nat.reduceMul, Nat.reduceLeDiff, Nat.reduceLT]
      replace h := Option.some.inj h
      obtain rfl := h
      simp only [go_sem, Nat.reduceEqDiff, reduceIte, Nat.reduceAdd, Nat.reduceMul, Nat.reduceLeDiff, Nat.reduceLT]
    · replace h := ifF (c := (!v11003)) hb4 h
      try simp only [go_sem, Nat.reduceEqDiff, reduceIte, Nat.reduceAdd, Nat.reduceMul, Nat.reduceLeDiff, Nat.reduceLT]
      refine seq_go ?_
      try simp only [go_sem, Nat.reduceEqDiff, reduceIte, Nat.reduceAdd, Nat.reduceMul, Nat.reduceLeDiff, Nat.reduceLT]
      replace h := bindE h
      obtain ⟨v14002, hv14002, h⟩ := h
      refine call_g ⟨[], [(1, 1000000001)], [], [], [], true⟩ (by kernel_rfl) (l_markBook_ok _ _ (some 4) _ hv14002) (by kernel_rfl) ?_
      try simp only [go_sem, Nat.reduceEqDiff, reduceIte, Nat.reduceAdd, Nat.reduceMul, Nat.reduceLeDiff, Nat.reduceLT]
      refine cond_i (fun hb5 => ?_) (fun hb5 => ?_)
      · replace h := ifT (c := (decide (v14002.1 < 0))) hb5 h
        try simp only [go_sem, Nat.reduceEqDiff, reduceIte, Nat.reduceAdd, Nat.reduceMul, Nat.reduceLeDiff, Nat.reduceLT]
        have hj := posF_to rfl rfl (l_FnExactEraseBook_j2_ok a0 v6002 v8001 true _ h)
        refine seq_to hj (.one ⟨_, .done _, [(1000001000, 1000000000), (1000001001, 1000000002)], [(1000001500, 1000000500), (1000001501, 1000000501), (1000001502, 1000000503)], ?_⟩)
        clear hj
        try simp only [go_sem, Nat.reduceEqDiff, reduceIte, Nat.reduceAdd, Nat.reduceMul, Nat.reduceLeDiff, Nat.reduceLT]
      · replace h := ifF (c := (decide (v14002.1 < 0))) hb5 h
        try simp only [go_sem, Nat.reduceEqDiff, reduceIte, Nat.reduceAdd, Nat.reduceMul, Nat.reduceLeDiff, Nat.reduceLT]
        replace h := bindE h
        obtain ⟨v15005, hv15005, h⟩ := h
        refine call_i (l_eqBook_ok _ _ _ hv15005) ?_
        try simp only [go_sem, Nat.reduceEqDiff, reduceIte, Nat.reduceAdd, Nat.reduceMul, Nat.reduceLeDiff, Nat.reduceLT]
        refine cond_i (fun hb6 => ?_) (fun hb6 => ?_)
        · replace h := ifT (c := (!v15005)) hb6 h
          try simp only [go_sem, Nat.reduceEqDiff, reduceIte, Nat.reduceAdd, Nat.reduceMul, Nat.reduceLeDiff, Nat.reduceLT]
          have hj := posF_to rfl rfl (l_FnExactEraseBook_j2_ok a0 v6002 v8001 true _ h)
          refine seq_to hj (.one ⟨_, .done _, [(1000001000, 1000000000), (1000001001, 1000000002)], [(1000001500, 1000000500), (1000001501, 1000000501), (1000001502, 1000000503)], ?_⟩)
          clear hj
          try simp only [go_sem, Nat.reduceEqDiff, reduceIte, Nat.reduceAdd, Nat.reduceMul, Nat.reduceLeDiff, Nat.reduceLT]
        · replace h := ifF (c := (!v15005)) hb6 h
          try simp only [go_sem, Nat.reduceEqDiff, reduceIte, Nat.reduceAdd, Nat.reduceMul, Nat.reduceLeDiff, Nat.reduceLT]
          have hj := posF_to rfl rfl (l_FnExactEraseBook_j2_ok a0 v6002 v8001 (!decide (v8001.2 = v6002.2)) _ h)
          refine seq_to hj (.one ⟨_, .done _, [(1000001000, 1000000000), (1000001001, 1000000002)], [(1000001500, 1000000500), (1000001501, 1000000501), (1000001502, 1000000503)], ?_⟩)
          clear hj
          try simp only [go_sem, Nat.reduceEqDiff, reduceIte, Nat.reduceAdd, Nat.reduceMul, Nat.reduceLeDiff, Nat.reduceLT]
theorem l_FnExactEraseBook_ok (a0 : Book) (r : Bool) (h : l_FnExactEraseBook a0 = some r) : AC Try.prog 5 [.agg (Book.avs a0)] (.bool r) := by
  unfold l_FnExactEraseBook at h
  refine ac_fn mixed Try.func5 rfl rfl rfl (by kernel_rfl) (by kernel_rfl) ?_
  try simp only [go_sem, Nat.reduceEqDiff, reduceIte, Nat.reduceAdd, Nat.reduceMul, Nat.reduceLeDiff, Nat.reduceLT]
  replace h := bindE h
  obtain ⟨v3002, hv3002, h⟩ := h
  refine call_i (l_szBook_ok _ _ _ hv3002) ?_
  try simp only [go_sem, Nat.reduceEqDiff, reduceIte, Nat.reduceAdd, Nat.reduceMul, Nat.reduceLeDiff, Nat.reduceLT]
  refine cond_i (fun hb1 => ?_) (fun hb1 => ?_)
  · replace h := ifT (c := (decide (v3002 < 0))) hb1 h
    try simp only [go_sem, Nat.reduceEqDiff, reduceIte, Nat.reduceAdd, Nat.reduceMul, Nat.reduceLeDiff, Nat.reduceLT]
    replace h := Option.some.inj h
    obtain rfl := h
    simp only [go_sem, Nat.reduceEqDiff, reduceIte, Nat.reduceAdd, Nat.reduceMul, Nat.reduceLeDiff, Nat.reduceLT]
  · replace h := ifF (c := (decide (v3002 < 0))) hb1 h
    try simp only [go_sem, Nat.reduceEqDiff, reduceIte, Nat.reduceAdd, Nat.reduceMul, Nat.reduceLeDiff, Nat.reduceLT]
    refine seq_go ?_
    try simp only [go_sem, Nat.reduceEqDiff, reduceIte, Nat.reduceAdd, Nat.reduceMul, Nat.reduceLeDiff, Nat.reduceLT]
    replace h := bindE h
    obtain ⟨v6001, hv6001, h⟩ := h
    refine call_i (l_toBook_ok _ _ hv6001) ?_
    try simp only [go_sem, Nat.reduceEqDiff, reduceIte, Nat.reduceAdd, Nat.reduceMul, Nat.reduceLeDiff, Nat.reduceLT]
    replace h := bindE h
    obtain ⟨v6002, hv6002, h⟩ := h
    refine call_i (s_EraseBook_ok _ _ hv6002) ?_
    try simp only [go_sem, Nat.reduceEqDiff, reduceIte, Nat.reduceAdd, Nat.reduceMul, Nat.reduceLeDiff, Nat.reduceLT]
    replace h := bindE h
    obtain ⟨v7001, hv7001, h⟩ := h
    refine call_i (l_toBook_ok _ _ hv7001) ?_
    try simp only [go_sem, Nat.reduceEqDiff, reduceIte, Nat.reduceAdd, Nat.reduceMul, Nat.reduceLeDiff, Nat.reduceLT]
    replace h := bindE h
    obtain ⟨v8001, hv8001, h⟩ := h
    refine call_i (i_EraseBook_ok _ _ hv8001) ?_
    try simp only [go_sem, Nat.reduceEqDiff, reduceIte, Nat.reduceAdd, Nat.reduceMul, Nat.reduceLeDiff, Nat.reduceLT]
    replace h := bindE h
    obtain ⟨v9002, hv9002, h⟩ := h
    refine call_i (l_eqBook_ok _ _ _ hv9002) ?_
    try simp only [go_sem, Nat.reduceEqDiff, reduceIte, Nat.reduceAdd, Nat.reduceMul, Nat.reduceLeDiff, Nat.reduceLT]
    refine cond_i (fun hb2 => ?_) (fun hb2 => ?_)
    · replace h := ifT (c := (!v9002)) hb2 h
      try simp only [go_sem, Nat.reduceEqDiff, reduceIte, Nat.reduceAdd, Nat.reduceMul, Nat.reduceLeDiff, Nat.reduceLT]
      have hj := posF_to rfl rfl (l_FnExactEraseBook_j1_ok a0 v6002 v7001 v8001 true _ h)
      refine seq_to hj (.one ⟨_, .done _, [(1000000000, 96032), (1000000001, 112016), (1000000002, 128016)], [(1000000500, 1000), (1000000501, 6006), (1000000502, 7002), (1000000503, 8005)], ?_⟩)
      clear hj
      try simp only [go_sem, Nat.reduceEqDiff, reduceIte, Nat.reduceAdd, Nat.reduceMul, Nat.reduceLeDiff, Nat.reduceLT]
    · replace h := ifF (c := (!v9002)) hb2 h
      try simp only [go_sem, Nat.reduceEqDiff, reduceIte, Nat.reduceAdd, Nat.reduceMul, Nat.reduceLeDiff, Nat.reduceLT]
      have hj := posF_to rfl rfl (l_FnExactEraseBook_j1_ok a0 v6002 v7001 v8001 (!decide (v8001.2 = v6002.2)) _ h)
      refine seq_to hj (.one ⟨_, .done _, [(1000000000, 96032), (1000000001, 112016), (1000000002, 128016)], [(1000000500, 1000), (1000000501, 6006), (1000000502, 7002), (1000000503, 8005)], ?_⟩)
      clear hj
      try simp only [go_sem, Nat.reduceEqDiff, reduceIte, Nat.reduceAdd, Nat.reduceMul, Nat.reduceLeDiff, Nat.reduceLT]
end Go.Proofs.Ytffokcfdkkikmaa.Ab
