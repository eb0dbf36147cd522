/-
  The functions do what their models say. Printed by wip/ab/gen.py.
-/
import Derived.Test.YtffokcfdkkikmaaModB
import Derived.Test.YtffokcfdkkikmaaTi2
import Derived.Test.YtffokcfdkkikmaaWlkC
namespace Go.Proofs.Ytffokcfdkkikmaa.Ab
set_option linter.unusedVariables false
set_option linter.unusedSimpArgs false
set_option maxRecDepth 20000
set_option maxHeartbeats 4000000
open Go.RowKit

theorem s_l33PutCore_all (n : Nat) : (∀ (a0 : List Int) (a1 : Core) (r : (List Int)), s_l33PutCore n a0 a1 = some r → AG Try.prog 112 [.own 1001, .rop [.int .i64 a1.kind, .int .i64 a1.value, .ro (List.map i64D a1.data), .ro (List.map Core.ds a1.kids)] 0] [(1001, ⟨List.map u8D a0, some 1, 0⟩)] [] (.own 1501) [(1501, ⟨List.map u8D r, some 1, 0⟩)] []) ∧
    (∀ (a1 : Core) (p1_0 : List Int) (p1_1 : Int) (r : (List Int)), s_l33PutCore_l2 n a1 p1_0 p1_1 = some r → posG Try.prog Try.f112 [1, 1, 1, 1, 0, 1, 0] (.own 1501) [(1501, ⟨List.map u8D r, some 1, 0⟩)] [] ⟨[(0, .own 1000001000), (1, .rop [.int .i64 a1.kind, .int .i64 a1.value, .ro (List.map i64D a1.data), .ro (List.map Core.ds a1.kids)] 0), (5, .int .i64 p1_1)], [(1000001000, some ⟨List.map u8D p1_0, some 1, 0⟩)], []⟩) ∧
    (∀ (a1 : Core) (p3_0 : List Int) (p3_1 : Int) (r : (List Int)), s_l33PutCore_l4 n a1 p3_0 p3_1 = some r → posG Try.prog Try.f112 [1, 1, 1, 1, 1, 1, 0, 1, 0] (.own 1501) [(1501, ⟨List.map u8D r, some 1, 0⟩)] [] ⟨[(0, .own 1000003000), (1, .rop [.int .i64 a1.kind, .int .i64 a1.value, .ro (List.map i64D a1.data), .ro (List.map Core.ds a1.kids)] 0), (6, .int .i64 p3_1)], [(1000003000, some ⟨List.map u8D p3_0, some 1, 0⟩)], []⟩) := by
  induction n with
  | zero => exact ⟨(fun _ _ _ h => by rw [s_l33PutCore] at h; cases h), (fun _ _ _ _ h => by rw [s_l33PutCore_l2] at h; cases h), (fun _ _ _ _ h => by rw [s_l33PutCore_l4] at h; cases h)⟩
  | succ n ih =>
    obtain ⟨ih0, ih1, ih2⟩ := ih
    refine ⟨?_, ?_, ?_⟩
    · intro a0 a1 r h
      rw [s_l33PutCore] at h
      refine ag_fn mixed Try.func112 rfl rfl rfl (by kernel_rfl) (by kernel_rfl) ?_
      try simp only [go_sem, Nat.reduceEqDiff, reduceIte, Nat.reduceAdd, Nat.reduceMul, Nat.reduceLeDiff, Nat.reduceLT]
      replace h := bindE h
      obtain ⟨v2007, hv2007, h⟩ := h
      have hq_ := app_some hv2007
      obtain ⟨hv2007a, hv2007b⟩ := hq_
      refine and_i (by refine ⟨?_, ?_⟩ <;> (try simp only [List.length_map, List.length_append, List.length_cons, List.length_nil] at *) <;> (try unfold maxLen) <;> omega) ?_
      try simp only [go_sem, Nat.reduceEqDiff, reduceIte, Nat.reduceAdd, Nat.reduceMul, Nat.reduceLeDiff, Nat.reduceLT]
      refine row_i (List.map u8D v2007) (by rw [← hv2007b]; simp only [List.map_append, List.map_cons, List.map_nil, List.nil_append, List.append_nil, go_sem, slD]) ?_
      try simp only [go_sem, Nat.reduceEqDiff, reduceIte, Nat.reduceAdd, Nat.reduceMul, Nat.reduceLeDiff, Nat.reduceLT]
      replace h := bindE h
      obtain ⟨v3005, hv3005, h⟩ := h
      refine call_g ⟨[], [(1001, 32112)], [], [(1501, 48080)], [], true⟩ (by kernel_rfl) (s_l33Number_ok _ _ _ hv3005) (by kernel_rfl) ?_
      try simp only [go_sem, Nat.reduceEqDiff, reduceIte, Nat.reduceAdd, Nat.reduceMul, Nat.reduceLeDiff, Nat.reduceLT]
      replace h := bindE h
      obtain ⟨v4008, hv4008, h⟩ := h
      have hq_ := app_some hv4008
      obtain ⟨hv4008a, hv4008b⟩ := hq_
      refine and_i (by refine ⟨?_, ?_⟩ <;> (try simp only [List.length_map, List.length_append, List.length_cons, List.length_nil] at *) <;> (try unfold maxLen) <;> omega) ?_
      try simp only [go_sem, Nat.reduceEqDiff, reduceIte, Nat.reduceAdd, Nat.reduceMul, Nat.reduceLeDiff, Nat.reduceLT]
      refine row_i (List.map u8D v4008) (by rw [← hv4008b]; simp only [List.map_append, List.map_cons, List.map_nil, List.nil_append, List.append_nil, go_sem, slD]) ?_
      try simp only [go_sem, Nat.reduceEqDiff, reduceIte, Nat.reduceAdd, Nat.reduceMul, Nat.reduceLeDiff, Nat.reduceLT]
      have hj := posG_to rfl rfl (ih1 a1 v4008 0 _ h)
      refine loop_to hj (.one ⟨_, .done _, [(1000001000, 64128)], [], ?_⟩)
      clear hj
      try simp only [go_sem, Nat.reduceEqDiff, reduceIte, Nat.reduceAdd, Nat.reduceMul, Nat.reduceLeDiff, Nat.reduceLT]
    · intro a1 p1_0 p1_1 r h
      rw [s_l33PutCore_l2] at h
      refine posG_of rfl rfl ?_
      try simp only [go_sem, Nat.reduceEqDiff, reduceIte, Nat.reduceAdd, Nat.reduceMul, Nat.reduceLeDiff, Nat.reduceLT]
      refine loop_i ?_
      try simp only [go_sem, Nat.reduceEqDiff, reduceIte, Nat.reduceAdd, Nat.reduceMul, Nat.reduceLeDiff, Nat.reduceLT]
      refine cond_i (fun hb1 => ?_) (fun hb1 => ?_)
      · replace h := ifT (c := (decide (p1_1 < ((List.length a1.data : Nat) : Int)))) hb1 h
        try simp only [go_sem, Nat.reduceEqDiff, reduceIte, Nat.reduceAdd, Nat.reduceMul, Nat.reduceLeDiff, Nat.reduceLT]
        refine seq_go ?_
        try simp only [go_sem, Nat.reduceEqDiff, reduceIte, Nat.reduceAdd, Nat.reduceMul, Nat.reduceLeDiff, Nat.reduceLT]
        replace h := bindE h
        obtain ⟨v8006, hv8006, h⟩ := h
        refine idx_m hv8006 rfl ?_
        try simp only [go_sem, Nat.reduceEqDiff, reduceIte, Nat.reduceAdd, Nat.reduceMul, Nat.reduceLeDiff, Nat.reduceLT]
        replace h := bindE h
        obtain ⟨v8010, hv8010, h⟩ := h
        have hq_ := app_some hv8010
        obtain ⟨hv8010a, hv8010b⟩ := hq_
        refine and_i (by refine ⟨?_, ?_⟩ <;> (try simp only [List.length_map, List.length_append, List.length_cons, List.length_nil] at *) <;> (try unfold maxLen) <;> omega) ?_
        try simp only [go_sem, Nat.reduceEqDiff, reduceIte, Nat.reduceAdd, Nat.reduceMul, Nat.reduceLeDiff, Nat.reduceLT]
        refine row_i (List.map u8D v8010) (by rw [← hv8010b]; simp only [List.map_append, List.map_cons, List.map_nil, List.nil_append, List.append_nil, go_sem, slD]) ?_
        try simp only [go_sem, Nat.reduceEqDiff, reduceIte, Nat.reduceAdd, Nat.reduceMul, Nat.reduceLeDiff, Nat.reduceLT]
        refine seq_go ?_
        try simp only [go_sem, Nat.reduceEqDiff, reduceIte, Nat.reduceAdd, Nat.reduceMul, Nat.reduceLeDiff, Nat.reduceLT]
        have hj := posG_to rfl rfl (ih1 a1 v8010 (IntKind.i64.wrap (p1_1 + 1)) _ h)
        refine lp_to hj (.one ⟨_, .done _, [(1000001000, 128160)], [], ?_⟩)
        clear hj
        try simp only [go_sem, Nat.reduceEqDiff, reduceIte, Nat.reduceAdd, Nat.reduceMul, Nat.reduceLeDiff, Nat.reduceLT]
      · replace h := ifF (c := (decide (p1_1 < ((List.length a1.data : Nat) : Int)))) hb1 h
        try simp only [go_sem, Nat.reduceEqDiff, reduceIte, Nat.reduceAdd, Nat.reduceMul, Nat.reduceLeDiff, Nat.reduceLT]
        refine seq_go ?_
        try simp only [go_sem, Nat.reduceEqDiff, reduceIte, Nat.reduceAdd, Nat.reduceMul, Nat.reduceLeDiff, Nat.reduceLT]
        replace h := bindE h
        obtain ⟨v9008, hv9008, h⟩ := h
        have hq_ := app_some hv9008
        obtain ⟨hv9008a, hv9008b⟩ := hq_
        refine and_i (by refine ⟨?_, ?_⟩ <;> (try simp only [List.length_map, List.length_append, List.length_cons, List.length_nil] at *) <;> (try unfold maxLen) <;> omega) ?_
        try simp only [go_sem, Nat.reduceEqDiff, reduceIte, Nat.reduceAdd, Nat.reduceMul, Nat.reduceLeDiff, Nat.reduceLT]
        refine row_i (List.map u8D v9008) (by rw [← hv9008b]; simp only [List.map_append, List.map_cons, List.map_nil, List.nil_append, List.append_nil, go_sem, slD]) ?_
        try simp only [go_sem, Nat.reduceEqDiff, reduceIte, Nat.reduceAdd, Nat.reduceMul, Nat.reduceLeDiff, Nat.reduceLT]
        have hj := posG_to rfl rfl (ih2 a1 v9008 0 _ h)
        refine loop_to hj (.one ⟨_, .done _, [(1000003000, 144128)], [], ?_⟩)
        clear hj
        try simp only [go_sem, Nat.reduceEqDiff, reduceIte, Nat.reduceAdd, Nat.reduceMul, Nat.reduceLeDiff, Nat.reduceLT]
    · intro a1 p3_0 p3_1 r h
      rw [s_l33PutCore_l4] at h
      refine posG_of rfl rfl ?_
      try simp only [go_sem, Nat.reduceEqDiff, reduceIte, Nat.reduceAdd, Nat.reduceMul, Nat.reduceLeDiff, Nat.reduceLT]
      refine loop_i ?_
      try simp only [go_sem, Nat.reduceEqDiff, reduceIte, Nat.reduceAdd, Nat.reduceMul, Nat.reduceLeDiff, Nat.reduceLT]
      refine cond_i (fun hb2 => ?_) (fun hb2 => ?_)
      · replace h := ifT (c := (decide (p3_1 < ((List.length a1.kids : Nat) : Int)))) hb2 h
        try simp only [go_sem, Nat.reduceEqDiff, reduceIte, Nat.reduceAdd, Nat.reduceMul, Nat.reduceLeDiff, Nat.reduceLT]
        refine seq_go ?_
        try simp only [go_sem, Nat.reduceEqDiff, reduceIte, Nat.reduceAdd, Nat.reduceMul, Nat.reduceLeDiff, Nat.reduceLT]
        replace h := bindE h
        obtain ⟨v13006, hv13006, h⟩ := h
        refine idx_m hv13006 (Core.ds_len _) ?_
        try simp only [go_sem, Nat.reduceEqDiff, reduceIte, Nat.reduceAdd, Nat.reduceMul, Nat.reduceLeDiff, Nat.reduceLT]
        replace h := bindE h
        obtain ⟨v13007, hv13007, h⟩ := h
        refine call_g ⟨[], [(1001, 1000003000)], [], [(1501, 208112)], [], true⟩ (by kernel_rfl) (ih0 _ _ _ hv13007) (by kernel_rfl) ?_
        try simp only [go_sem, Nat.reduceEqDiff, reduceIte, Nat.reduceAdd, Nat.reduceMul, Nat.reduceLeDiff, Nat.reduceLT]
        refine seq_go ?_
        try simp only [go_sem, Nat.reduceEqDiff, reduceIte, Nat.reduceAdd, Nat.reduceMul, Nat.reduceLeDiff, Nat.reduceLT]
        have hj := posG_to rfl rfl (ih2 a1 v13007 (IntKind.i64.wrap (p3_1 + 1)) _ h)
        refine lp_to hj (.one ⟨_, .done _, [(1000003000, 208112)], [], ?_⟩)
        clear hj
        try simp only [go_sem, Nat.reduceEqDiff, reduceIte, Nat.reduceAdd, Nat.reduceMul, Nat.reduceLeDiff, Nat.reduceLT]
      · replace h := ifF (c := (decide (p3_1 < ((List.length a1.kids : Nat) : Int)))) hb2 h
        try simp only [go_sem, Nat.reduceEqDiff, reduceIte, Nat.reduceAdd, Nat.reduceMul, Nat.reduceLeDiff, Nat.reduceLT]
        refine seq_go ?_
        try simp only [go_sem, Nat.reduceEqDiff, reduceIte, Nat.reduceAdd, Nat.reduceMul, Nat.reduceLeDiff, Nat.reduceLT]
        replace h := Option.some.inj h
        obtain rfl := h
        refine ret_i (.done _) [(1501, 1000003000)] [] ?_
        simp only [go_sem, Nat.reduceEqDiff, reduceIte, Nat.reduceAdd, Nat.reduceMul, Nat.reduceLeDiff, Nat.reduceLT]
theorem s_l33PutCore_ok (n : Nat) : (∀ (a0 : List Int) (a1 : Core) (r : (List Int)), s_l33PutCore n a0 a1 = some r → AG Try.prog 112 [.own 1001, .rop [.int .i64 a1.kind, .int .i64 a1.value, .ro (List.map i64D a1.data), .ro (List.map Core.ds a1.kids)] 0] [(1001, ⟨List.map u8D a0, some 1, 0⟩)] [] (.own 1501) [(1501, ⟨List.map u8D r, some 1, 0⟩)] []) := (s_l33PutCore_all n).1
theorem s_l33PutCore_l2_ok (n : Nat) : (∀ (a1 : Core) (p1_0 : List Int) (p1_1 : Int) (r : (List Int)), s_l33PutCore_l2 n a1 p1_0 p1_1 = some r → posG Try.prog Try.f112 [1, 1, 1, 1, 0, 1, 0] (.own 1501) [(1501, ⟨List.map u8D r, some 1, 0⟩)] [] ⟨[(0, .own 1000001000), (1, .rop [.int .i64 a1.kind, .int .i64 a1.value, .ro (List.map i64D a1.data), .ro (List.map Core.ds a1.kids)] 0), (5, .int .i64 p1_1)], [(1000001000, some ⟨List.map u8D p1_0, some 1, 0⟩)], []⟩) := (s_l33PutCore_all n).2.1
theorem s_l33PutCore_l4_ok (n : Nat) : (∀ (a1 : Core) (p3_0 : List Int) (p3_1 : Int) (r : (List Int)), s_l33PutCore_l4 n a1 p3_0 p3_1 = some r → posG Try.prog Try.f112 [1, 1, 1, 1, 1, 1, 0, 1, 0] (.own 1501) [(1501, ⟨List.map u8D r, some 1, 0⟩)] [] ⟨[(0, .own 1000003000), (1, .rop [.int .i64 a1.kind, .int .i64 a1.value, .ro (List.map i64D a1.data), .ro (List.map Core.ds a1.kids)] 0), (6, .int .i64 p3_1)], [(1000003000, some ⟨List.map u8D p3_0, some 1, 0⟩)], []⟩) := (s_l33PutCore_all n).2.2

theorem s_EncodeBook_l2_all (n : Nat) : (∀ (a0 : Book) (p1_0 : List Int) (p1_1 : Int) (r : (List Int) × Int), s_EncodeBook_l2 n a0 p1_0 p1_1 = some r → posF Try.prog Try.f46 [1, 1, 1, 0, 1, 0] (.tup [.ow (some 1) (List.map u8D r.1), .int .i64 r.2]) ⟨[(1, .box 1000001500 0), (4, .own 1000001000), (5, .int .i64 p1_1)], [(1000001000, some ⟨List.map u8D p1_0, some 1, 0⟩)], [(1000001500, some [.ro (List.map Core.ds a0.defs)])]⟩) := by
  induction n with
  | zero => exact ((fun _ _ _ _ h => by rw [s_EncodeBook_l2] at h; cases h))
  | succ n ih =>
    have ih0 := ih
    · intro a0 p1_0 p1_1 r h
      rw [s_EncodeBook_l2] at h
      refine posF_of rfl rfl ?_
      try simp only [go_sem, Nat.reduceEqDiff, reduceIte, Nat.reduceAdd, Nat.reduceMul, Nat.reduceLeDiff, Nat.reduceLT]
      refine loop_i ?_
      try simp only [go_sem, Nat.reduceEqDiff, reduceIte, Nat.reduceAdd, Nat.reduceMul, Nat.reduceLeDiff, Nat.reduceLT]
      refine cond_i (fun hb2 => ?_) (fun hb2 => ?_)
      · replace h := ifT (c := (decide (p1_1 < ((List.length a0.defs : Nat) : Int)))) hb2 h
        try simp only [go_sem, Nat.reduceEqDiff, reduceIte, Nat.reduceAdd, Nat.reduceMul, Nat.reduceLeDiff, Nat.reduceLT]
        refine seq_go ?_
        try simp only [go_sem, Nat.reduceEqDiff, reduceIte, Nat.reduceAdd, Nat.reduceMul, Nat.reduceLeDiff, Nat.reduceLT]
        replace h := bindE h
        obtain ⟨v8004, hv8004, h⟩ := h
        refine idx_m hv8004 (Core.ds_len _) ?_
        try simp only [go_sem, Nat.reduceEqDiff, reduceIte, Nat.reduceAdd, Nat.reduceMul, Nat.reduceLeDiff, Nat.reduceLT]
        replace h := bindE h
        obtain ⟨v8005, hv8005, h⟩ := h
        refine call_g ⟨[], [(1001, 1000001000)], [], [(1501, 128080)], [], true⟩ (by kernel_rfl) (s_l33PutCore_ok fuel _ _ _ hv8005) (by kernel_rfl) ?_
        try simp only [go_sem, Nat.reduceEqDiff, reduceIte, Nat.reduceAdd, Nat.reduceMul, Nat.reduceLeDiff, Nat.reduceLT]
        refine seq_go ?_
        try simp only [go_sem, Nat.reduceEqDiff, reduceIte, Nat.reduceAdd, Nat.reduceMul, Nat.reduceLeDiff, Nat.reduceLT]
        have hj := posF_to rfl rfl (ih0 a0 v8005 (IntKind.i64.wrap (p1_1 + 1)) _ h)
        refine lp_to hj (.one ⟨_, .done _, [(1000001000, 128080)], [(1000001500, 1000001500)], ?_⟩)
        clear hj
        try simp only [go_sem, Nat.reduceEqDiff, reduceIte, Nat.reduceAdd, Nat.reduceMul, Nat.reduceLeDiff, Nat.reduceLT]
      · replace h := ifF (c := (decide (p1_1 < ((List.length a0.defs : Nat) : Int)))) hb2 h
        try simp only [go_sem, Nat.reduceEqDiff, reduceIte, Nat.reduceAdd, Nat.reduceMul, Nat.reduceLeDiff, Nat.reduceLT]
        refine seq_go ?_
        try simp only [go_sem, Nat.reduceEqDiff, reduceIte, Nat.reduceAdd, Nat.reduceMul, Nat.reduceLeDiff, Nat.reduceLT]
        replace h := bindE h
        obtain ⟨v9001, hv9001, h⟩ := h
        refine call_i (s_l33Close_ok _ _ _ hv9001) ?_
        try simp only [go_sem, Nat.reduceEqDiff, reduceIte, Nat.reduceAdd, Nat.reduceMul, Nat.reduceLeDiff, Nat.reduceLT]
        replace h := Option.some.inj h
        obtain rfl := h
        simp only [go_sem, Nat.reduceEqDiff, reduceIte, Nat.reduceAdd, Nat.reduceMul, Nat.reduceLeDiff, Nat.reduceLT]
theorem s_EncodeBook_l2_ok (n : Nat) : (∀ (a0 : Book) (p1_0 : List Int) (p1_1 : Int) (r : (List Int) × Int), s_EncodeBook_l2 n a0 p1_0 p1_1 = some r → posF Try.prog Try.f46 [1, 1, 1, 0, 1, 0] (.tup [.ow (some 1) (List.map u8D r.1), .int .i64 r.2]) ⟨[(1, .box 1000001500 0), (4, .own 1000001000), (5, .int .i64 p1_1)], [(1000001000, some ⟨List.map u8D p1_0, some 1, 0⟩)], [(1000001500, some [.ro (List.map Core.ds a0.defs)])]⟩) := (s_EncodeBook_l2_all n)

theorem s_EncodeBook_ok (a0 : Book) (r : (List Int) × Int) (h : s_EncodeBook a0 = some r) : AC Try.prog 46 [.agg (Book.avs a0)] (.tup [.ow (some 1) (List.map u8D r.1), .int .i64 r.2]) := by
  unfold s_EncodeBook at h
  refine ac_fn mixed Try.func46 rfl rfl rfl (by kernel_rfl) (by kernel_rfl) ?_
  try simp only [go_sem, Nat.reduceEqDiff, reduceIte, Nat.reduceAdd, Nat.reduceMul, Nat.reduceLeDiff, Nat.reduceLT]
  replace h := bindE h
  obtain ⟨v2000, hv2000, h⟩ := h
  refine call_i (s_l06Book_ok _ _ hv2000) ?_
  try simp only [go_sem, Nat.reduceEqDiff, reduceIte, Nat.reduceAdd, Nat.reduceMul, Nat.reduceLeDiff, Nat.reduceLT]
  refine cond_i (fun hb1 => ?_) (fun hb1 => ?_)
  · replace h := ifT (c := (!v2000)) hb1 h
    try simp only [go_sem, Nat.reduceEqDiff, reduceIte, Nat.reduceAdd, Nat.reduceMul, Nat.reduceLeDiff, Nat.reduceLT]
    replace h := Option.some.inj h
    obtain rfl := h
    simp only [go_sem, Nat.reduceEqDiff, reduceIte, Nat.reduceAdd, Nat.reduceMul, Nat.reduceLeDiff, Nat.reduceLT]
  · replace h := ifF (c := (!v2000)) hb1 h
    try simp only [go_sem, Nat.reduceEqDiff, reduceIte, Nat.reduceAdd, Nat.reduceMul, Nat.reduceLeDiff, Nat.reduceLT]
    refine seq_go ?_
    try simp only [go_sem, Nat.reduceEqDiff, reduceIte, Nat.reduceAdd, Nat.reduceMul, Nat.reduceLeDiff, Nat.reduceLT]
    replace h := bindE h
    obtain ⟨v4004, hv4004, h⟩ := h
    refine call_g ⟨[(3000064064, .bsl 4000 0 1, some 1)], [(1001, 3000064064)], [], [(1501, 64064)], [], true⟩ (by kernel_rfl) (s_l33Number_ok _ _ _ hv4004) (by kernel_rfl) ?_
    try simp only [go_sem, Nat.reduceEqDiff, reduceIte, Nat.reduceAdd, Nat.reduceMul, Nat.reduceLeDiff, Nat.reduceLT]
    have hj := posF_to rfl rfl (s_EncodeBook_l2_ok fuel a0 v4004 0 _ h)
    refine loop_to hj (.one ⟨_, .done _, [(1000001000, 64064)], [(1000001500, 1000)], ?_⟩)
    clear hj
    try simp only [go_sem, Nat.reduceEqDiff, reduceIte, Nat.reduceAdd, Nat.reduceMul, Nat.reduceLeDiff, Nat.reduceLT]
theorem i_appendCore_all (n : Nat) : (∀ (a0 : List Int) (a1 : Core) (r : (List Int)), i_appendCore n a0 a1 = some r → AG Try.prog 115 [.own 1001, .agg [.int .i64 a1.kind, .int .i64 a1.value, .ro (List.map i64D a1.data), .ro (List.map Core.ds a1.kids)]] [(1001, ⟨List.map u8D a0, some 1, 0⟩)] [] (.own 1501) [(1501, ⟨List.map u8D r, some 1, 0⟩)] []) ∧
    (∀ (a1 : Core) (v2008 : (List Int)) (r : (List Int)), i_appendCore_j1 n a1 v2008 = some r → posG Try.prog Try.f115 [1, 1] (.own 1501) [(1501, ⟨List.map u8D r, some 1, 0⟩)] [] ⟨[(0, .own 1000000000), (3, .box 1000000500 0)], [(1000000000, some ⟨List.map u8D v2008, some 1, 0⟩)], [(1000000500, some [.int .i64 a1.kind, .int .i64 a1.value, .ro (List.map i64D a1.data), .ro (List.map Core.ds a1.kids)])]⟩) ∧
    (∀ (a1 : Core) (p2_0 : List Int) (p2_1 : Int) (r : (List Int)), i_appendCore_l3 n a1 p2_0 p2_1 = some r → posG Try.prog Try.f115 [1, 1, 1, 0, 1, 0] (.own 1501) [(1501, ⟨List.map u8D r, some 1, 0⟩)] [] ⟨[(0, .own 1000002000), (3, .box 1000002500 0), (26, .ro (List.map i64D a1.data)), (27, .int .i64 ((List.length a1.data : Nat) : Int)), (28, .int .i64 p2_1)], [(1000002000, some ⟨List.map u8D p2_0, some 1, 0⟩)], [(1000002500, some [.int .i64 a1.kind, .int .i64 a1.value, .ro (List.map i64D a1.data), .ro (List.map Core.ds a1.kids)])]⟩) ∧
    (∀ (a1 : Core) (p4_0 : List Int) (p4_1 : Int) (r : (List Int)), i_appendCore_l5 n a1 p4_0 p4_1 = some r → posG Try.prog Try.f115 [1, 1, 1, 1, 1, 0, 1, 0] (.own 1501) [(1501, ⟨List.map u8D r, some 1, 0⟩)] [] ⟨[(0, .own 1000004000), (46, .ro (List.map Core.ds a1.kids)), (47, .int .i64 ((List.length a1.kids : Nat) : Int)), (48, .int .i64 p4_1)], [(1000004000, some ⟨List.map u8D p4_0, some 1, 0⟩)], []⟩) := by
  induction n with
  | zero => exact ⟨(fun _ _ _ h => by rw [i_appendCore] at h; cases h), (fun _ _ _ h => by rw [i_appendCore_j1] at h; cases h), (fun _ _ _ _ h => by rw [i_appendCore_l3] at h; cases h), (fun _ _ _ _ h => by rw [i_appendCore_l5] at h; cases h)⟩
  | succ n ih =>
    obtain ⟨ih0, ih1, ih2, ih3⟩ := ih
    refine ⟨?_, ?_, ?_, ?_⟩
    · intro a0 a1 r h
      rw [i_appendCore] at h
      refine ag_fn mixed Try.func115 rfl rfl rfl (by kernel_rfl) (by kernel_rfl) ?_
      try simp only [go_sem, Nat.reduceEqDiff, reduceIte, Nat.reduceAdd, Nat.reduceMul, Nat.reduceLeDiff, Nat.reduceLT]
      refine draw_i [false, false, true, true, true, true, false, true, true, true] (.br 2 (.br 3 (.br 4 (.br 5 (Tr.sq [7, 8, 9] .fin) (.br 7 (Tr.sq [5, 8, 9] .fin) .stop)) (.br 7 (Tr.sq [4, 5, 8, 9] .fin) .stop)) (.br 7 (Tr.sq [3, 4, 5, 8, 9] .fin) .stop)) (.br 7 (Tr.sq [2, 3, 4, 5, 8, 9] .fin) .stop)) (by kernel_rfl) ?_
      try simp only [go_sem, Nat.reduceEqDiff, reduceIte, Nat.reduceAdd, Nat.reduceMul, Nat.reduceLeDiff, Nat.reduceLT]
      refine alt_i ?_ ?_
      · try simp only [go_sem, Nat.reduceEqDiff, reduceIte, Nat.reduceAdd, Nat.reduceMul, Nat.reduceLeDiff, Nat.reduceLT]
        refine alt_i ?_ ?_
        · try simp only [go_sem, Nat.reduceEqDiff, reduceIte, Nat.reduceAdd, Nat.reduceMul, Nat.reduceLeDiff, Nat.reduceLT]
          refine alt_i ?_ ?_
          · try simp only [go_sem, Nat.reduceEqDiff, reduceIte, Nat.reduceAdd, Nat.reduceMul, Nat.reduceLeDiff, Nat.reduceLT]
            refine alt_i ?_ ?_
            · try simp only [go_sem, Nat.reduceEqDiff, reduceIte, Nat.reduceAdd, Nat.reduceMul, Nat.reduceLeDiff, Nat.reduceLT]
              replace h := bindE h
              obtain ⟨v2005, hv2005, h⟩ := h
              have hq_ := app_some hv2005
              obtain ⟨hv2005a, hv2005b⟩ := hq_
              refine and_i (by refine ⟨?_, ?_⟩ <;> (try simp only [List.length_map, List.length_append, List.length_cons, List.length_nil] at *) <;> (try unfold maxLen) <;> omega) ?_
              try simp only [go_sem, Nat.reduceEqDiff, reduceIte, Nat.reduceAdd, Nat.reduceMul, Nat.reduceLeDiff, Nat.reduceLT]
              refine row_i (List.map u8D v2005) (by rw [← hv2005b]; simp only [List.map_append, List.map_cons, List.map_nil, List.nil_append, List.append_nil, go_sem, slD]) ?_
              try simp only [go_sem, Nat.reduceEqDiff, reduceIte, Nat.reduceAdd, Nat.reduceMul, Nat.reduceLeDiff, Nat.reduceLT]
              replace h := bindE h
              obtain ⟨v2008, hv2008, h⟩ := h
              refine call_g ⟨[], [(1001, 32080)], [], [(1501, 32128)], [], true⟩ (by kernel_rfl) (i_appendNumber_ok _ _ _ hv2008) (by kernel_rfl) ?_
              try simp only [go_sem, Nat.reduceEqDiff, reduceIte, Nat.reduceAdd, Nat.reduceMul, Nat.reduceLeDiff, Nat.reduceLT]
              have hj := posG_to rfl rfl (ih1 a1 v2008 _ h)
              refine seq_to hj (.one ⟨_, .done _, [(1000000000, 32128)], [(1000000500, 1000)], ?_⟩)
              clear hj
              try simp only [go_sem, Nat.reduceEqDiff, reduceIte, Nat.reduceAdd, Nat.reduceMul, Nat.reduceLeDiff, Nat.reduceLT]
            · try simp only [go_sem, Nat.reduceEqDiff, reduceIte, Nat.reduceAdd, Nat.reduceMul, Nat.reduceLeDiff, Nat.reduceLT]
              replace h := bindE h
              obtain ⟨v2005, hv2005, h⟩ := h
              have hq_ := app_some hv2005
              obtain ⟨hv2005a, hv2005b⟩ := hq_
              refine and_i (by refine ⟨?_, ?_⟩ <;> (try simp only [List.length_map, List.length_append, List.length_cons, List.length_nil] at *) <;> (try unfold maxLen) <;> omega) ?_
              try simp only [go_sem, Nat.reduceEqDiff, reduceIte, Nat.reduceAdd, Nat.reduceMul, Nat.reduceLeDiff, Nat.reduceLT]
              refine row_i (List.map u8D v2005) (by rw [← hv2005b]; simp only [List.map_append, List.map_cons, List.map_nil, List.nil_append, List.append_nil, go_sem, slD]) ?_
              try simp only [go_sem, Nat.reduceEqDiff, reduceIte, Nat.reduceAdd, Nat.reduceMul, Nat.reduceLeDiff, Nat.reduceLT]
              replace h := bindE h
              obtain ⟨v2008, hv2008, h⟩ := h
              refine call_g ⟨[], [(1001, 32080)], [], [(1501, 32128)], [], true⟩ (by kernel_rfl) (i_appendNumber_ok _ _ _ hv2008) (by kernel_rfl) ?_
              try simp only [go_sem, Nat.reduceEqDiff, reduceIte, Nat.reduceAdd, Nat.reduceMul, Nat.reduceLeDiff, Nat.reduceLT]
              have hj := posG_to rfl rfl (ih1 a1 v2008 _ h)
              refine seq_to hj (.one ⟨_, .done _, [(1000000000, 32128)], [(1000000500, 1000)], ?_⟩)
              clear hj
              try simp only [go_sem, Nat.reduceEqDiff, reduceIte, Nat.reduceAdd, Nat.reduceMul, Nat.reduceLeDiff, Nat.reduceLT]
          · try simp only [go_sem, Nat.reduceEqDiff, reduceIte, Nat.reduceAdd, Nat.reduceMul, Nat.reduceLeDiff, Nat.reduceLT]
            replace h := bindE h
            obtain ⟨v2005, hv2005, h⟩ := h
            have hq_ := app_some hv2005
            obtain ⟨hv2005a, hv2005b⟩ := hq_
            refine and_i (by refine ⟨?_, ?_⟩ <;> (try simp only [List.length_map, List.length_append, List.length_cons, List.length_nil] at *) <;> (try unfold maxLen) <;> omega) ?_
            try simp only [go_sem, Nat.reduceEqDiff, reduceIte, Nat.reduceAdd, Nat.reduceMul, Nat.reduceLeDiff, Nat.reduceLT]
            refine row_i (List.map u8D v2005) (by rw [← hv2005b]; simp only [List.map_append, List.map_cons, List.map_nil, List.nil_append, List.append_nil, go_sem, slD]) ?_
            try simp only [go_sem, Nat.reduceEqDiff, reduceIte, Nat.reduceAdd, Nat.reduceMul, Nat.reduceLeDiff, Nat.reduceLT]
            replace h := bindE h
            obtain ⟨v2008, hv2008, h⟩ := h
            refine call_g ⟨[], [(1001, 32080)], [], [(1501, 32128)], [], true⟩ (by kernel_rfl) (i_appendNumber_ok _ _ _ hv2008) (by kernel_rfl) ?_
            try simp only [go_sem, Nat.reduceEqDiff, reduceIte, Nat.reduceAdd, Nat.reduceMul, Nat.reduceLeDiff, Nat.reduceLT]
            have hj := posG_to rfl rfl (ih1 a1 v2008 _ h)
            refine seq_to hj (.one ⟨_, .done _, [(1000000000, 32128)], [(1000000500, 1000)], ?_⟩)
            clear hj
            try simp only [go_sem, Nat.reduceEqDiff, reduceIte, Nat.reduceAdd, Nat.reduceMul, Nat.reduceLeDiff, Nat.reduceLT]
        · try simp only [go_sem, Nat.reduceEqDiff, reduceIte, Nat.reduceAdd, Nat.reduceMul, Nat.reduceLeDiff, Nat.reduceLT]
          replace h := bindE h
          obtain ⟨v2005, hv2005, h⟩ := h
          have hq_ := app_some hv2005
          obtain ⟨hv2005a, hv2005b⟩ := hq_
          refine and_i (by refine ⟨?_, ?_⟩ <;> (try simp only [List.length_map, List.length_append, List.length_cons, List.length_nil] at *) <;> (try unfold maxLen) <;> omega) ?_
          try simp only [go_sem, Nat.reduceEqDiff, reduceIte, Nat.reduceAdd, Nat.reduceMul, Nat.reduceLeDiff, Nat.reduceLT]
          refine row_i (List.map u8D v2005) (by rw [← hv2005b]; simp only [List.map_append, List.map_cons, List.map_nil, List.nil_append, List.append_nil, go_sem, slD]) ?_
          try simp only [go_sem, Nat.reduceEqDiff, reduceIte, Nat.reduceAdd, Nat.reduceMul, Nat.reduceLeDiff, Nat.reduceLT]
          replace h := bindE h
          obtain ⟨v2008, hv2008, h⟩ := h
          refine call_g ⟨[], [(1001, 32080)], [], [(1501, 32128)], [], true⟩ (by kernel_rfl) (i_appendNumber_ok _ _ _ hv2008) (by kernel_rfl) ?_
          try simp only [go_sem, Nat.reduceEqDiff, reduceIte, Nat.reduceAdd, Nat.reduceMul, Nat.reduceLeDiff, Nat.reduceLT]
          have hj := posG_to rfl rfl (ih1 a1 v2008 _ h)
          refine seq_to hj (.one ⟨_, .done _, [(1000000000, 32128)], [(1000000500, 1000)], ?_⟩)
          clear hj
          try simp only [go_sem, Nat.reduceEqDiff, reduceIte, Nat.reduceAdd, Nat.reduceMul, Nat.reduceLeDiff, Nat.reduceLT]
      · try simp only [go_sem, Nat.reduceEqDiff, reduceIte, Nat.reduceAdd, Nat.reduceMul, Nat.reduceLeDiff, Nat.reduceLT]
        replace h := bindE h
        obtain ⟨v2005, hv2005, h⟩ := h
        have hq_ := app_some hv2005
        obtain ⟨hv2005a, hv2005b⟩ := hq_
        refine and_i (by refine ⟨?_, ?_⟩ <;> (try simp only [List.length_map, List.length_append, List.length_cons, List.length_nil] at *) <;> (try unfold maxLen) <;> omega) ?_
        try simp only [go_sem, Nat.reduceEqDiff, reduceIte, Nat.reduceAdd, Nat.reduceMul, Nat.reduceLeDiff, Nat.reduceLT]
        refine row_i (List.map u8D v2005) (by rw [← hv2005b]; simp only [List.map_append, List.map_cons, List.map_nil, List.nil_append, List.append_nil, go_sem, slD]) ?_
        try simp only [go_sem, Nat.reduceEqDiff, reduceIte, Nat.reduceAdd, Nat.reduceMul, Nat.reduceLeDiff, Nat.reduceLT]
        replace h := bindE h
        obtain ⟨v2008, hv2008, h⟩ := h
        refine call_g ⟨[], [(1001, 32080)], [], [(1501, 32128)], [], true⟩ (by kernel_rfl) (i_appendNumber_ok _ _ _ hv2008) (by kernel_rfl) ?_
        try simp only [go_sem, Nat.reduceEqDiff, reduceIte, Nat.reduceAdd, Nat.reduceMul, Nat.reduceLeDiff, Nat.reduceLT]
        have hj := posG_to rfl rfl (ih1 a1 v2008 _ h)
        refine seq_to hj (.one ⟨_, .done _, [(1000000000, 32128)], [(1000000500, 1000)], ?_⟩)
        clear hj
        try simp only [go_sem, Nat.reduceEqDiff, reduceIte, Nat.reduceAdd, Nat.reduceMul, Nat.reduceLeDiff, Nat.reduceLT]
    · intro a1 v2008 r h
      rw [i_appendCore_j1] at h
      refine posG_of rfl rfl ?_
      try simp only [go_sem, Nat.reduceEqDiff, reduceIte, Nat.reduceAdd, Nat.reduceMul, Nat.reduceLeDiff, Nat.reduceLT]
      replace h := bindE h
      obtain ⟨v3006, hv3006, h⟩ := h
      have hq_ := app_some hv3006
      obtain ⟨hv3006a, hv3006b⟩ := hq_
      refine and_i (by refine ⟨?_, ?_⟩ <;> (try simp only [List.length_map, List.length_append, List.length_cons, List.length_nil] at *) <;> (try unfold maxLen) <;> omega) ?_
      try simp only [go_sem, Nat.reduceEqDiff, reduceIte, Nat.reduceAdd, Nat.reduceMul, Nat.reduceLeDiff, Nat.reduceLT]
      refine row_i (List.map u8D v3006) (by rw [← hv3006b]; simp only [List.map_append, List.map_cons, List.map_nil, List.nil_append, List.append_nil, go_sem, slD]) ?_
      try simp only [go_sem, Nat.reduceEqDiff, reduceIte, Nat.reduceAdd, Nat.reduceMul, Nat.reduceLeDiff, Nat.reduceLT]
      have hj := posG_to rfl rfl (ih2 a1 v3006 0 _ h)
      refine loop_to hj (.one ⟨_, .done _, [(1000002000, 48096)], [(1000002500, 1000000500)], ?_⟩)
      clear hj
      try simp only [go_sem, Nat.reduceEqDiff, reduceIte, Nat.reduceAdd, Nat.reduceMul, Nat.reduceLeDiff, Nat.reduceLT]
    · intro a1 p2_0 p2_1 r h
      rw [i_appendCore_l3] at h
      refine posG_of rfl rfl ?_
      try simp only [go_sem, Nat.reduceEqDiff, reduceIte, Nat.reduceAdd, Nat.reduceMul, Nat.reduceLeDiff, Nat.reduceLT]
      refine loop_i ?_
      try simp only [go_sem, Nat.reduceEqDiff, reduceIte, Nat.reduceAdd, Nat.reduceMul, Nat.reduceLeDiff, Nat.reduceLT]
      refine cond_i (fun hb1 => ?_) (fun hb1 => ?_)
      · replace h := ifT (c := (decide (p2_1 < ((List.length a1.data : Nat) : Int)))) hb1 h
        try simp only [go_sem, Nat.reduceEqDiff, reduceIte, Nat.reduceAdd, Nat.reduceMul, Nat.reduceLeDiff, Nat.reduceLT]
        refine seq_go ?_
        try simp only [go_sem, Nat.reduceEqDiff, reduceIte, Nat.reduceAdd, Nat.reduceMul, Nat.reduceLeDiff, Nat.reduceLT]
        replace h := bindE h
        obtain ⟨v6000, hv6000, h⟩ := h
        refine idx_m hv6000 rfl ?_
        try simp only [go_sem, Nat.reduceEqDiff, reduceIte, Nat.reduceAdd, Nat.reduceMul, Nat.reduceLeDiff, Nat.reduceLT]
        replace h := bindE h
        obtain ⟨v7004, hv7004, h⟩ := h
        have hq_ := app_some hv7004
        obtain ⟨hv7004a, hv7004b⟩ := hq_
        refine and_i (by refine ⟨?_, ?_⟩ <;> (try simp only [List.length_map, List.length_append, List.length_cons, List.length_nil] at *) <;> (try unfold maxLen) <;> omega) ?_
        try simp only [go_sem, Nat.reduceEqDiff, reduceIte, Nat.reduceAdd, Nat.reduceMul, Nat.reduceLeDiff, Nat.reduceLT]
        refine row_i (List.map u8D v7004) (by rw [← hv7004b]; simp only [List.map_append, List.map_cons, List.map_nil, List.nil_append, List.append_nil, go_sem, slD]) ?_
        try simp only [go_sem, Nat.reduceEqDiff, reduceIte, Nat.reduceAdd, Nat.reduceMul, Nat.reduceLeDiff, Nat.reduceLT]
        refine seq_go ?_
        try simp only [go_sem, Nat.reduceEqDiff, reduceIte, Nat.reduceAdd, Nat.reduceMul, Nat.reduceLeDiff, Nat.reduceLT]
        have hj := posG_to rfl rfl (ih2 a1 v7004 (IntKind.i64.wrap (p2_1 + 1)) _ h)
        refine lp_to hj (.one ⟨_, .done _, [(1000002000, 112064)], [(1000002500, 1000002500)], ?_⟩)
        clear hj
        try simp only [go_sem, Nat.reduceEqDiff, reduceIte, Nat.reduceAdd, Nat.reduceMul, Nat.reduceLeDiff, Nat.reduceLT]
      · replace h := ifF (c := (decide (p2_1 < ((List.length a1.data : Nat) : Int)))) hb1 h
        try simp only [go_sem, Nat.reduceEqDiff, reduceIte, Nat.reduceAdd, Nat.reduceMul, Nat.reduceLeDiff, Nat.reduceLT]
        refine seq_go ?_
        try simp only [go_sem, Nat.reduceEqDiff, reduceIte, Nat.reduceAdd, Nat.reduceMul, Nat.reduceLeDiff, Nat.reduceLT]
        replace h := bindE h
        obtain ⟨v9006, hv9006, h⟩ := h
        have hq_ := app_some hv9006
        obtain ⟨hv9006a, hv9006b⟩ := hq_
        refine and_i (by refine ⟨?_, ?_⟩ <;> (try simp only [List.length_map, List.length_append, List.length_cons, List.length_nil] at *) <;> (try unfold maxLen) <;> omega) ?_
        try simp only [go_sem, Nat.reduceEqDiff, reduceIte, Nat.reduceAdd, Nat.reduceMul, Nat.reduceLeDiff, Nat.reduceLT]
        refine row_i (List.map u8D v9006) (by rw [← hv9006b]; simp only [List.map_append, List.map_cons, List.map_nil, List.nil_append, List.append_nil, go_sem, slD]) ?_
        try simp only [go_sem, Nat.reduceEqDiff, reduceIte, Nat.reduceAdd, Nat.reduceMul, Nat.reduceLeDiff, Nat.reduceLT]
        have hj := posG_to rfl rfl (ih3 a1 v9006 0 _ h)
        refine loop_to hj (.one ⟨_, .done _, [(1000004000, 144096)], [], ?_⟩)
        clear hj
        try simp only [go_sem, Nat.reduceEqDiff, reduceIte, Nat.reduceAdd, Nat.reduceMul, Nat.reduceLeDiff, Nat.reduceLT]
    · intro a1 p4_0 p4_1 r h
      rw [i_appendCore_l5] at h
      refine posG_of rfl rfl ?_
      try simp only [go_sem, Nat.reduceEqDiff, reduceIte, Nat.reduceAdd, Nat.reduceMul, Nat.reduceLeDiff, Nat.reduceLT]
      refine loop_i ?_
      try simp only [go_sem, Nat.reduceEqDiff, reduceIte, Nat.reduceAdd, Nat.reduceMul, Nat.reduceLeDiff, Nat.reduceLT]
      refine cond_i (fun hb2 => ?_) (fun hb2 => ?_)
      · replace h := ifT (c := (decide (p4_1 < ((List.length a1.kids : Nat) : Int)))) hb2 h
        try simp only [go_sem, Nat.reduceEqDiff, reduceIte, Nat.reduceAdd, Nat.reduceMul, Nat.reduceLeDiff, Nat.reduceLT]
        refine seq_go ?_
        try simp only [go_sem, Nat.reduceEqDiff, reduceIte, Nat.reduceAdd, Nat.reduceMul, Nat.reduceLeDiff, Nat.reduceLT]
        replace h := bindE h
        obtain ⟨v12000, hv12000, h⟩ := h
        refine idx_m hv12000 (Core.ds_len _) ?_
        try simp only [go_sem, Nat.reduceEqDiff, reduceIte, Nat.reduceAdd, Nat.reduceMul, Nat.reduceLeDiff, Nat.reduceLT]
        replace h := bindE h
        obtain ⟨v13002, hv13002, h⟩ := h
        refine call_g ⟨[], [(1001, 1000004000)], [], [(1501, 208032)], [], true⟩ (by kernel_rfl) (ih0 _ _ _ hv13002) (by kernel_rfl) ?_
        try simp only [go_sem, Nat.reduceEqDiff, reduceIte, Nat.reduceAdd, Nat.reduceMul, Nat.reduceLeDiff, Nat.reduceLT]
        refine seq_go ?_
        try simp only [go_sem, Nat.reduceEqDiff, reduceIte, Nat.reduceAdd, Nat.reduceMul, Nat.reduceLeDiff, Nat.reduceLT]
        have hj := posG_to rfl rfl (ih3 a1 v13002 (IntKind.i64.wrap (p4_1 + 1)) _ h)
        refine lp_to hj (.one ⟨_, .done _, [(1000004000, 208032)], [], ?_⟩)
        clear hj
        try simp only [go_sem, Nat.reduceEqDiff, reduceIte, Nat.reduceAdd, Nat.reduceMul, Nat.reduceLeDiff, Nat.reduceLT]
      · replace h := ifF (c := (decide (p4_1 < ((List.length a1.kids : Nat) : Int)))) hb2 h
        try simp only [go_sem, Nat.reduceEqDiff, reduceIte, Nat.reduceAdd, Nat.reduceMul, Nat.reduceLeDiff, Nat.reduceLT]
        refine seq_go ?_
        try simp only [go_sem, Nat.reduceEqDiff, reduceIte, Nat.reduceAdd, Nat.reduceMul, Nat.reduceLeDiff, Nat.reduceLT]
        replace h := Option.some.inj h
        obtain rfl := h
        refine ret_i (.done _) [(1501, 1000004000)] [] ?_
        simp only [go_sem, Nat.reduceEqDiff, reduceIte, Nat.reduceAdd, Nat.reduceMul, Nat.reduceLeDiff, Nat.reduceLT]
theorem i_appendCore_ok (n : Nat) : (∀ (a0 : List Int) (a1 : Core) (r : (List Int)), i_appendCore n a0 a1 = some r → AG Try.prog 115 [.own 1001, .agg [.int .i64 a1.kind, .int .i64 a1.value, .ro (List.map i64D a1.data), .ro (List.map Core.ds a1.kids)]] [(1001, ⟨List.map u8D a0, some 1, 0⟩)] [] (.own 1501) [(1501, ⟨List.map u8D r, some 1, 0⟩)] []) := (i_appendCore_all n).1
theorem i_appendCore_j1_ok (n : Nat) : (∀ (a1 : Core) (v2008 : (List Int)) (r : (List Int)), i_appendCore_j1 n a1 v2008 = some r → posG Try.prog Try.f115 [1, 1] (.own 1501) [(1501, ⟨List.map u8D r, some 1, 0⟩)] [] ⟨[(0, .own 1000000000), (3, .box 1000000500 0)], [(1000000000, some ⟨List.map u8D v2008, some 1, 0⟩)], [(1000000500, some [.int .i64 a1.kind, .int .i64 a1.value, .ro (List.map i64D a1.data), .ro (List.map Core.ds a1.kids)])]⟩) := (i_appendCore_all n).2.1
theorem i_appendCore_l3_ok (n : Nat) : (∀ (a1 : Core) (p2_0 : List Int) (p2_1 : Int) (r : (List Int)), i_appendCore_l3 n a1 p2_0 p2_1 = some r → posG Try.prog Try.f115 [1, 1, 1, 0, 1, 0] (.own 1501) [(1501, ⟨List.map u8D r, some 1, 0⟩)] [] ⟨[(0, .own 1000002000), (3, .box 1000002500 0), (26, .ro (List.map i64D a1.data)), (27, .int .i64 ((List.length a1.data : Nat) : Int)), (28, .int .i64 p2_1)], [(1000002000, some ⟨List.map u8D p2_0, some 1, 0⟩)], [(1000002500, some [.int .i64 a1.kind, .int .i64 a1.value, .ro (List.map i64D a1.data), .ro (List.map Core.ds a1.kids)])]⟩) := (i_appendCore_all n).2.2.1
theorem i_appendCore_l5_ok (n : Nat) : (∀ (a1 : Core) (p4_0 : List Int) (p4_1 : Int) (r : (List Int)), i_appendCore_l5 n a1 p4_0 p4_1 = some r → posG Try.prog Try.f115 [1, 1, 1, 1, 1, 0, 1, 0] (.own 1501) [(1501, ⟨List.map u8D r, some 1, 0⟩)] [] ⟨[(0, .own 1000004000), (46, .ro (List.map Core.ds a1.kids)), (47, .int .i64 ((List.length a1.kids : Nat) : Int)), (48, .int .i64 p4_1)], [(1000004000, some ⟨List.map u8D p4_0, some 1, 0⟩)], []⟩) := (i_appendCore_all n).2.2.2

theorem i_EncodeBook_l2_all (n : Nat) : (∀ (a0 : Book) (p1_0 : List Int) (p1_1 : Int) (r : (List Int) × Int), i_EncodeBook_l2 n a0 p1_0 p1_1 = some r → posF Try.prog Try.f47 [1, 1, 1, 0, 1, 0] (.tup [.ow (some 1) (List.map u8D r.1), .int .i64 r.2]) ⟨[(4, .own 1000001000), (15, .ro (List.map Core.ds a0.defs)), (16, .int .i64 ((List.length a0.defs : Nat) : Int)), (17, .int .i64 p1_1)], [(1000001000, some ⟨List.map u8D p1_0, some 1, 0⟩)], []⟩) := by
  induction n with
  | zero => exact ((fun _ _ _ _ h => by rw [i_EncodeBook_l2] at h; cases h))
  | succ n ih =>
    have ih0 := ih
    · intro a0 p1_0 p1_1 r h
      rw [i_EncodeBook_l2] at h
      refine posF_of rfl rfl ?_
      try simp only [go_sem, Nat.reduceEqDiff, reduceIte, Nat.reduceAdd, Nat.reduceMul, Nat.reduceLeDiff, Nat.reduceLT]
      refine loop_i ?_
      try simp only [go_sem, Nat.reduceEqDiff, reduceIte, Nat.reduceAdd, Nat.reduceMul, Nat.reduceLeDiff, Nat.reduceLT]
      refine cond_i (fun hb2 => ?_) (fun hb2 => ?_)
      · replace h := ifT (c := (decide (p1_1 < ((List.length a0.defs : Nat) : Int)))) hb2 h
        try simp only [go_sem, Nat.reduceEqDiff, reduceIte, Nat.reduceAdd, Nat.reduceMul, Nat.reduceLeDiff, Nat.reduceLT]
        refine seq_go ?_
        try simp only [go_sem, Nat.reduceEqDiff, reduceIte, Nat.reduceAdd, Nat.reduceMul, Nat.reduceLeDiff, Nat.reduceLT]
        replace h := bindE h
        obtain ⟨v7000, hv7000, h⟩ := h
        refine idx_m hv7000 (Core.ds_len _) ?_
        try simp only [go_sem, Nat.reduceEqDiff, reduceIte, Nat.reduceAdd, Nat.reduceMul, Nat.reduceLeDiff, Nat.reduceLT]
        replace h := bindE h
        obtain ⟨v8002, hv8002, h⟩ := h
        refine call_g ⟨[], [(1001, 1000001000)], [], [(1501, 128032)], [], true⟩ (by kernel_rfl) (i_appendCore_ok fuel _ _ _ hv8002) (by kernel_rfl) ?_
        try simp only [go_sem, Nat.reduceEqDiff, reduceIte, Nat.reduceAdd, Nat.reduceMul, Nat.reduceLeDiff, Nat.reduceLT]
        refine seq_go ?_
        try simp only [go_sem, Nat.reduceEqDiff, reduceIte, Nat.reduceAdd, Nat.reduceMul, Nat.reduceLeDiff, Nat.reduceLT]
        have hj := posF_to rfl rfl (ih0 a0 v8002 (IntKind.i64.wrap (p1_1 + 1)) _ h)
        refine lp_to hj (.one ⟨_, .done _, [(1000001000, 128032)], [], ?_⟩)
        clear hj
        try simp only [go_sem, Nat.reduceEqDiff, reduceIte, Nat.reduceAdd, Nat.reduceMul, Nat.reduceLeDiff, Nat.reduceLT]
      · replace h := ifF (c := (decide (p1_1 < ((List.length a0.defs : Nat) : Int)))) hb2 h
        try simp only [go_sem, Nat.reduceEqDiff, reduceIte, Nat.reduceAdd, Nat.reduceMul, Nat.reduceLeDiff, Nat.reduceLT]
        refine seq_go ?_
        try simp only [go_sem, Nat.reduceEqDiff, reduceIte, Nat.reduceAdd, Nat.reduceMul, Nat.reduceLeDiff, Nat.reduceLT]
        replace h := bindE h
        obtain ⟨v10001, hv10001, h⟩ := h
        refine call_i (i_framed_ok _ _ _ hv10001) ?_
        try simp only [go_sem, Nat.reduceEqDiff, reduceIte, Nat.reduceAdd, Nat.reduceMul, Nat.reduceLeDiff, Nat.reduceLT]
        replace h := Option.some.inj h
        obtain rfl := h
        simp only [go_sem, Nat.reduceEqDiff, reduceIte, Nat.reduceAdd, Nat.reduceMul, Nat.reduceLeDiff, Nat.reduceLT]
theorem i_EncodeBook_l2_ok (n : Nat) : (∀ (a0 : Book) (p1_0 : List Int) (p1_1 : Int) (r : (List Int) × Int), i_EncodeBook_l2 n a0 p1_0 p1_1 = some r → posF Try.prog Try.f47 [1, 1, 1, 0, 1, 0] (.tup [.ow (some 1) (List.map u8D r.1), .int .i64 r.2]) ⟨[(4, .own 1000001000), (15, .ro (List.map Core.ds a0.defs)), (16, .int .i64 ((List.length a0.defs : Nat) : Int)), (17, .int .i64 p1_1)], [(1000001000, some ⟨List.map u8D p1_0, some 1, 0⟩)], []⟩) := (i_EncodeBook_l2_all n)

theorem i_EncodeBook_ok (a0 : Book) (r : (List Int) × Int) (h : i_EncodeBook a0 = some r) : AC Try.prog 47 [.agg (Book.avs a0)] (.tup [.ow (some 1) (List.map u8D r.1), .int .i64 r.2]) := by
  unfold i_EncodeBook at h
  refine ac_fn mixed Try.func47 rfl rfl rfl (by kernel_rfl) (by kernel_rfl) ?_
  try simp only [go_sem, Nat.reduceEqDiff, reduceIte, Nat.reduceAdd, Nat.reduceMul, Nat.reduceLeDiff, Nat.reduceLT]
  replace h := bindE h
  obtain ⟨v2001, hv2001, h⟩ := h
  refine call_i (i_ValidBook_ok _ _ hv2001) ?_
  try simp only [go_sem, Nat.reduceEqDiff, reduceIte, Nat.reduceAdd, Nat.reduceMul, Nat.reduceLeDiff, Nat.reduceLT]
  refine cond_i (fun hb1 => ?_) (fun hb1 => ?_)
  · replace h := ifT (c := (!v2001)) hb1 h
    try simp only [go_sem, Nat.reduceEqDiff, reduceIte, Nat.reduceAdd, Nat.reduceMul, Nat.reduceLeDiff, Nat.reduceLT]
    replace h := Option.some.inj h
    obtain rfl := h
    simp only [go_sem, Nat.reduceEqDiff, reduceIte, Nat.reduceAdd, Nat.reduceMul, Nat.reduceLeDiff, Nat.reduceLT]
  · replace h := ifF (c := (!v2001)) hb1 h
    try simp only [go_sem, Nat.reduceEqDiff, reduceIte, Nat.reduceAdd, Nat.reduceMul, Nat.reduceLeDiff, Nat.reduceLT]
    refine seq_go ?_
    try simp only [go_sem, Nat.reduceEqDiff, reduceIte, Nat.reduceAdd, Nat.reduceMul, Nat.reduceLeDiff, Nat.reduceLT]
    replace h := bindE h
    obtain ⟨v4003, hv4003, h⟩ := h
    refine call_g ⟨[(3000064048, .nils, some 1)], [(1001, 3000064048)], [], [(1501, 64048)], [], true⟩ (by kernel_rfl) (i_appendNumber_ok _ _ _ hv4003) (by kernel_rfl) ?_
    try simp only [go_sem, Nat.reduceEqDiff, reduceIte, Nat.reduceAdd, Nat.reduceMul, Nat.reduceLeDiff, Nat.reduceLT]
    have hj := posF_to rfl rfl (i_EncodeBook_l2_ok fuel a0 v4003 0 _ h)
    refine loop_to hj (.one ⟨_, .done _, [(1000001000, 64048)], [], ?_⟩)
    clear hj
    try simp only [go_sem, Nat.reduceEqDiff, reduceIte, Nat.reduceAdd, Nat.reduceMul, Nat.reduceLeDiff, Nat.reduceLT]
theorem l_FnExactEncodeBook_j3_ok (v18002 : Int × (List Int)) (p2_0 : Bool) (r : Bool) (h : l_FnExactEncodeBook_j3 v18002 p2_0 = some r) : posF Try.prog Try.f9 [1, 1, 1, 1, 1, 1, 1, 1, 1, 1, 1, 1, 1, 1, 1, 1, 1, 1, 1, 0, 1] (.bool r) ⟨[(7, .own 1000002000), (10, .int .i64 v18002.1), (87, .bool p2_0)], [(1000002000, some ⟨List.map u8D v18002.2, some 1, 0⟩)], []⟩ := by
  unfold l_FnExactEncodeBook_j3 at h
  refine posF_of rfl rfl ?_
  try simp only [go_sem, Nat.reduceEqDiff, reduceIte, Nat.reduceAdd, Nat.reduceMul, Nat.reduceLeDiff, Nat.reduceLT]
  refine cond_i (fun hb11 => ?_) (fun hb11 => ?_)
  · replace h := ifT (c := p2_0) hb11 h
    try simp only [go_sem, Nat.reduceEqDiff, reduceIte, Nat.reduceAdd, Nat.reduceMul, Nat.reduceLeDiff, Nat.reduceLT]
    replace h := Option.some.inj h
    obtain rfl := h
    simp only [go_sem, Nat.reduceEqDiff, reduceIte, Nat.reduceAdd, Nat.reduceMul, Nat.reduceLeDiff, Nat.reduceLT]
  · replace h := ifF (c := p2_0) hb11 h
    try simp only [go_sem, Nat.reduceEqDiff, reduceIte, Nat.reduceAdd, Nat.reduceMul, Nat.reduceLeDiff, Nat.reduceLT]
    refine seq_go ?_
    try simp only [go_sem, Nat.reduceEqDiff, reduceIte, Nat.reduceAdd, Nat.reduceMul, Nat.reduceLeDiff, Nat.reduceLT]
    replace h := bindE h
    obtain ⟨v29002, hv29002, h⟩ := h
    refine call_i (l_heldByteS_ok _ _ _ hv29002) ?_
    try simp only [go_sem, Nat.reduceEqDiff, reduceIte, Nat.reduceAdd, Nat.reduceMul, Nat.reduceLeDiff, Nat.reduceLT]
    refine cond_i (fun hb12 => ?_) (fun hb12 => ?_)
    · replace h := ifT (c := (decide (v29002 < 0))) hb12 h
      try simp only [go_sem, Nat.reduceEqDiff, reduceIte, Nat.reduceAdd, Nat.reduceMul, Nat.reduceLeDiff, Nat.reduceLT]
      replace h := Option.some.inj h
      obtain rfl := h
      simp only [go_sem, Nat.reduceEqDiff, reduceIte, Nat.reduceAdd, Nat.reduceMul, Nat.reduceLeDiff, Nat.reduceLT]
    · replace h := ifF (c := (decide (v29002 < 0))) hb12 h
      try simp only [go_sem, Nat.reduceEqDiff, reduceIte, Nat.reduceAdd, Nat.reduceMul, Nat.reduceLeDiff, Nat.reduceLT]
      refine seq_go ?_
      try simp only [go_sem, Nat.reduceEqDiff, reduceIte, Nat.reduceAdd, Nat.reduceMul, Nat.reduceLeDiff, Nat.reduceLT]
      refine cond_i (fun hb13 => ?_) (fun hb13 => ?_)
      · replace h := ifT (c := (!decide (v29002 = v18002.1))) hb13 h
        try simp only [go_sem, Nat.reduceEqDiff, reduceIte, Nat.reduceAdd, Nat.reduceMul, Nat.reduceLeDiff, Nat.reduceLT]
        replace h := Option.some.inj h
        obtain rfl := h
        simp only [go_sem, Nat.reduceEqDiff, reduceIte, Nat.reduceAdd, Nat.reduceMul, Nat.reduceLeDiff, Nat.reduceLT]
      · replace h := ifF (c := (!decide (v29002 = v18002.1))) hb13 h
        try simp only [go_sem, Nat.reduceEqDiff, reduceIte, Nat.reduceAdd, Nat.reduceMul, Nat.reduceLeDiff, Nat.reduceLT]
        refine seq_go ?_
        try simp only [go_sem, Nat.reduceEqDiff, reduceIte, Nat.reduceAdd, Nat.reduceMul, Nat.reduceLeDiff, Nat.reduceLT]
        replace h := Option.some.inj h
        obtain rfl := h
        simp only [go_sem, Nat.reduceEqDiff, reduceIte, Nat.reduceAdd, Nat.reduceMul, Nat.reduceLeDiff, Nat.reduceLT]
theorem l_FnExactEncodeBook_j2_ok (a0 : Book) (v6002 : (List Int) × Int) (v8001 : (List Int) × Int) (p1_0 : Bool) (r : Bool) (h : l_FnExactEncodeBook_j2 a0 v6002 v8001 p1_0 = some r) : posF Try.prog Try.f9 [1, 1, 1, 1, 1, 1, 1, 1, 1, 1, 1, 0, 1] (.bool r) ⟨[(1, .box 1000001500 0), (4, .own 1000001000), (5, .int .i64 v6002.2), (7, .own 1000001001), (61, .bool p1_0)], [(1000001000, some ⟨List.map u8D v6002.1, some 1, 0⟩), (1000001001, some ⟨List.map u8D v8001.1, some 1, 0⟩)], [(1000001500, some [.ro (List.map Core.ds a0.defs)])]⟩ := by
  unfold l_FnExactEncodeBook_j2 at h
  refine posF_of rfl rfl ?_
  try simp only [go_sem, Nat.reduceEqDiff, reduceIte, Nat.reduceAdd, Nat.reduceMul, Nat.reduceLeDiff, Nat.reduceLT]
  refine cond_i (fun hb7 => ?_) (fun hb7 => ?_)
  · replace h := ifT (c := p1_0) hb7 h
    try simp only [go_sem, Nat.reduceEqDiff, reduceIte, Nat.reduceAdd, Nat.reduceMul, Nat.reduceLeDiff, Nat.reduceLT]
    replace h := Option.some.inj h
    obtain rfl := h
    simp only [go_sem, Nat.reduceEqDiff, reduceIte, Nat.reduceAdd, Nat.reduceMul, Nat.reduceLeDiff, Nat.reduceLT]
  · replace h := ifF (c := p1_0) hb7 h
    try simp only [go_sem, Nat.reduceEqDiff, reduceIte, Nat.reduceAdd, Nat.reduceMul, Nat.reduceLeDiff, Nat.reduceLT]
    refine seq_go ?_
    try simp only [go_sem, Nat.reduceEqDiff, reduceIte, Nat.reduceAdd, Nat.reduceMul, Nat.reduceLeDiff, Nat.reduceLT]
    replace h := bindE h
    obtain ⟨v18002, hv18002, h⟩ := h
    refine call_g ⟨[], [(1, 1000001001)], [], [], [], true⟩ (by kernel_rfl) (l_markByteS_ok _ _ (some 1) _ hv18002) (by kernel_rfl) ?_
    try simp only [go_sem, Nat.reduceEqDiff, reduceIte, Nat.reduceAdd, Nat.reduceMul, Nat.reduceLeDiff, Nat.reduceLT]
    replace h := bindE h
    obtain ⟨v20002, hv20002, h⟩ := h
    refine call_i (l_heldByteS_ok _ _ _ hv20002) ?_
    try simp only [go_sem, Nat.reduceEqDiff, reduceIte, Nat.reduceAdd, Nat.reduceMul, Nat.reduceLeDiff, Nat.reduceLT]
    refine cond_i (fun hb8 => ?_) (fun hb8 => ?_)
    · replace h := ifT (c := (decide (v20002 < 0))) hb8 h
      try simp only [go_sem, Nat.reduceEqDiff, reduceIte, Nat.reduceAdd, Nat.reduceMul, Nat.reduceLeDiff, Nat.reduceLT]
      replace h := Option.some.inj h
      obtain rfl := h
      simp only [go_sem, Nat.reduceEqDiff, reduceIte, Nat.reduceAdd, Nat.reduceMul, Nat.reduceLeDiff, Nat.reduceLT]
    · replace h := ifF (c := (decide (v20002 < 0))) hb8 h
      try simp only [go_sem, Nat.reduceEqDiff, reduceIte, Nat.reduceAdd, Nat.reduceMul, Nat.reduceLeDiff, Nat.reduceLT]
      refine seq_go ?_
      try simp only [go_sem, Nat.reduceEqDiff, reduceIte, Nat.reduceAdd, Nat.reduceMul, Nat.reduceLeDiff, Nat.reduceLT]
      refine cond_i (fun hb9 => ?_) (fun hb9 => ?_)
      · replace h := ifT (c := (!decide (v20002 = v18002.1))) hb9 h
        try simp only [go_sem, Nat.reduceEqDiff, reduceIte, Nat.reduceAdd, Nat.reduceMul, Nat.reduceLeDiff, Nat.reduceLT]
        replace h := Option.some.inj h
        obtain rfl := h
        simp only [go_sem, Nat.reduceEqDiff, reduceIte, Nat.reduceAdd, Nat.reduceMul, Nat.reduceLeDiff, Nat.reduceLT]
      · replace h := ifF (c := (!decide (v20002 = v18002.1))) hb9 h
        try simp only [go_sem, Nat.reduceEqDiff, reduceIte, Nat.reduceAdd, Nat.reduceMul, Nat.reduceLeDiff, Nat.reduceLT]
        refine seq_go ?_
        try simp only [go_sem, Nat.reduceEqDiff, reduceIte, Nat.reduceAdd, Nat.reduceMul, Nat.reduceLeDiff, Nat.reduceLT]
        replace h := bindE h
        obtain ⟨v25001, hv25001, h⟩ := h
        refine call_i (l_toBook_ok _ _ hv25001) ?_
        try simp only [go_sem, Nat.reduceEqDiff, reduceIte, Nat.reduceAdd, Nat.reduceMul, Nat.reduceLeDiff, Nat.reduceLT]
        replace h := bindE h
        obtain ⟨v25002, hv25002, h⟩ := h
        refine call_i (i_EncodeBook_ok _ _ hv25002) ?_
        try simp only [go_sem, Nat.reduceEqDiff, reduceIte, Nat.reduceAdd, Nat.reduceMul, Nat.reduceLeDiff, Nat.reduceLT]
        replace h := bindE h
        obtain ⟨v26002, hv26002, h⟩ := h
        refine call_i (l_eqByteS_ok _ _ _ hv26002) ?_
        try simp only [go_sem, Nat.reduceEqDiff, reduceIte, Nat.reduceAdd, Nat.reduceMul, Nat.reduceLeDiff, Nat.reduceLT]
        refine cond_i (fun hb10 => ?_) (fun hb10 => ?_)
        · replace h := ifT (c := (!v26002)) hb10 h
          try simp only [go_sem, Nat.reduceEqDiff, reduceIte, Nat.reduceAdd, Nat.reduceMul, Nat.reduceLeDiff, Nat.reduceLT]
          have hj := posF_to rfl rfl (l_FnExactEncodeBook_j3_ok v18002 true _ h)
          refine seq_to hj (.one ⟨_, .done _, [(1000002000, 1000001001)], [], ?_⟩)
          clear hj
          try simp only [go_sem, Nat.reduceEqDiff, reduceIte, Nat.reduceAdd, Nat.reduceMul, Nat.reduceLeDiff, Nat.reduceLT]
        · replace h := ifF (c := (!v26002)) hb10 h
          try simp only [go_sem, Nat.reduceEqDiff, reduceIte, Nat.reduceAdd, Nat.reduceMul, Nat.reduceLeDiff, Nat.reduceLT]
          have hj := posF_to rfl rfl (l_FnExactEncodeBook_j3_ok v18002 (!decide (v25002.2 = v6002.2)) _ h)
          refine seq_to hj (.one ⟨_, .done _, [(1000002000, 1000001001)], [], ?_⟩)
          clear hj
          try simp only [go_sem, Nat.reduceEqDiff, reduceIte, Nat.reduceAdd, Nat.reduceMul, Nat.reduceLeDiff, Nat.reduceLT]
theorem l_FnExactEncodeBook_j1_ok (a0 : Book) (v6002 : (List Int) × Int) (v7001 : Book) (v8001 : (List Int) × Int) (p0_0 : Bool) (r : Bool) (h : l_FnExactEncodeBook_j1 a0 v6002 v7001 v8001 p0_0 = some r) : posF Try.prog Try.f9 [1, 1, 1, 1, 1, 1, 1, 0, 1] (.bool r) ⟨[(1, .box 1000000500 0), (4, .own 1000000000), (5, .int .i64 v6002.2), (6, .box 1000000501 0), (7, .own 1000000002), (8, .int .i64 v8001.2), (40, .bool p0_0)], [(1000000000, some ⟨List.map u8D v6002.1, some 1, 0⟩), (1000000001, some ⟨List.map Core.ds v7001.defs, some 4, 0⟩), (1000000002, some ⟨List.map u8D v8001.1, some 1, 0⟩)], [(1000000500, some [.ro (List.map Core.ds a0.defs)]), (1000000501, some [.own 1000000001])]⟩ := by
  unfold l_FnExactEncodeBook_j1 at h
  refine posF_of rfl rfl ?_
  try simp only [go_sem, Nat.reduceEqDiff, reduceIte, Nat.reduceAdd, Nat.reduceMul, Nat.reduceLeDiff, Nat.reduceLT]
  refine cond_i (fun hb3 => ?_) (fun hb3 => ?_)
  · replace h := ifT (c := p0_0) hb3 h
    try simp only [go_sem, Nat.reduceEqDiff, reduceIte, Nat.reduceAdd, Nat.reduceMul, Nat.reduceLeDiff, Nat.reduceLT]
    replace h := Option.some.inj h
    obtain rfl := h
    simp only [go_sem, Nat.reduceEqDiff, reduceIte, Nat.reduceAdd, Nat.reduceMul, Nat.reduceLeDiff, Nat.reduceLT]
  · replace h := ifF (c := p0_0) hb3 h
    try simp only [go_sem, Nat.reduceEqDiff, reduceIte, Nat.reduceAdd, Nat.reduceMul, Nat.reduceLeDiff, Nat.reduceLT]
    refine seq_go ?_
    try simp only [go_sem, Nat.reduceEqDiff, reduceIte, Nat.reduceAdd, Nat.reduceMul, Nat.reduceLeDiff, Nat.reduceLT]
    refine draw_i [] .fin (by kernel_rfl) ?_
    try simp only [go_sem, Nat.reduceEqDiff, reduceIte, Nat.reduceAdd, Nat.reduceMul, Nat.reduceLeDiff, Nat.reduceLT]
    replace h := bindE h
    obtain ⟨v11002, hv11002, h⟩ := h
    refine call_i (l_toBook_ok _ _ hv11002) ?_
    try simp only [go_sem, Nat.reduceEqDiff, reduceIte, Nat.reduceAdd, Nat.reduceMul, Nat.reduceLeDiff, Nat.reduceLT]
    replace h := bindE h
    obtain ⟨v11003, hv11003, h⟩ := h
    refine call_i (l_eqBook_ok _ _ _ hv11003) ?_
    try simp only [go_sem, Nat.reduceEqDiff, reduceIte, Nat.reduceAdd, Nat.reduceMul, Nat.reduceLeDiff, Nat.reduceLT]
    refine seq_go ?_
    try simp only [go_sem, Nat.reduceEqDiff, reduceIte, Nat.reduceAdd, Nat.reduceMul, Nat.reduceLeDiff, Nat.reduceLT]
    refine cond_i (fun hb4 => ?_) (fun hb4 => ?_)
    · replace h := ifT (c := (!v11003)) hb4 h
      try simp only [go_sem, Nat.reduceEqDiff, reduceIte, Nat.reduceAdd, Nat.reduceMul, Nat.reduceLeDiff, Nat.reduceLT]
      replace h := Option.some.inj h
      obtain rfl := h
      simp only [go_sem, Nat.reduceEqDiff, reduceIte, Nat.reduceAdd, Nat.reduceMul, Nat.reduceLeDiff, Nat.reduceLT]
    · replace h := ifF (c := (!v11003)) hb4 h
      try simp only [go_sem, Nat.reduceEqDiff, reduceIte, Nat.reduceAdd, Nat.reduceMul, Nat.reduceLeDiff, Nat.reduceLT]
      refine seq_go ?_
      try simp only [go_sem, Nat.reduceEqDiff, reduceIte, Nat.reduceAdd, Nat.reduceMul, Nat.reduceLeDiff, Nat.reduceLT]
      replace h := bindE h
      obtain ⟨v14002, hv14002, h⟩ := h
      refine call_g ⟨[], [(1, 1000000001)], [], [], [], true⟩ (by kernel_rfl) (l_markBook_ok _ _ (some 4) _ hv14002) (by kernel_rfl) ?_
      try simp only [go_sem, Nat.reduceEqDiff, reduceIte, Nat.reduceAdd, Nat.reduceMul, Nat.reduceLeDiff, Nat.reduceLT]
      refine cond_i (fun hb5 => ?_) (fun hb5 => ?_)
      · replace h := ifT (c := (decide (v14002.1 < 0))) hb5 h
        try simp only [go_sem, Nat.reduceEqDiff, reduceIte, Nat.reduceAdd, Nat.reduceMul, Nat.reduceLeDiff, Nat.reduceLT]
        have hj := posF_to rfl rfl (l_FnExactEncodeBook_j2_ok a0 v6002 v8001 true _ h)
        refine seq_to hj (.one ⟨_, .done _, [(1000001000, 1000000000), (1000001001, 1000000002)], [(1000001500, 1000000500)], ?_⟩)
        clear hj
        try simp only [go_sem, Nat.reduceEqDiff, reduceIte, Nat.reduceAdd, Nat.reduceMul, Nat.reduceLeDiff, Nat.reduceLT]
      · replace h := ifF (c := (decide (v14002.1 < 0))) hb5 h
        try simp only [go_sem, Nat.reduceEqDiff, reduceIte, Nat.reduceAdd, Nat.reduceMul, Nat.reduceLeDiff, Nat.reduceLT]
        replace h := bindE h
        obtain ⟨v15005, hv15005, h⟩ := h
        refine call_i (l_eqByteS_ok _ _ _ hv15005) ?_
        try simp only [go_sem, Nat.reduceEqDiff, reduceIte, Nat.reduceAdd, Nat.reduceMul, Nat.reduceLeDiff, Nat.reduceLT]
        refine cond_i (fun hb6 => ?_) (fun hb6 => ?_)
        · replace h := ifT (c := (!v15005)) hb6 h
          try simp only [go_sem, Nat.reduceEqDiff, reduceIte, Nat.reduceAdd, Nat.reduceMul, Nat.reduceLeDiff, Nat.reduceLT]
          have hj := posF_to rfl rfl (l_FnExactEncodeBook_j2_ok a0 v6002 v8001 true _ h)
          refine seq_to hj (.one ⟨_, .done _, [(1000001000, 1000000000), (1000001001, 1000000002)], [(1000001500, 1000000500)], ?_⟩)
          clear hj
          try simp only [go_sem, Nat.reduceEqDiff, reduceIte, Nat.reduceAdd, Nat.reduceMul, Nat.reduceLeDiff, Nat.reduceLT]
        · replace h := ifF (c := (!v15005)) hb6 h
          try simp only [go_sem, Nat.reduceEqDiff, reduceIte, Nat.reduceAdd, Nat.reduceMul, Nat.reduceLeDiff, Nat.reduceLT]
          have hj := posF_to rfl rfl (l_FnExactEncodeBook_j2_ok a0 v6002 v8001 (!decide (v8001.2 = v6002.2)) _ h)
          refine seq_to hj (.one ⟨_, .done _, [(1000001000, 1000000000), (1000001001, 1000000002)], [(1000001500, 1000000500)], ?_⟩)
          clear hj
          try simp only [go_sem, Nat.reduceEqDiff, reduceIte, Nat.reduceAdd, Nat.reduceMul, Nat.reduceLeDiff, Nat.reduceLT]
theorem l_FnExactEncodeBook_ok (a0 : Book) (r : Bool) (h : l_FnExactEncodeBook a0 = some r) : AC Try.prog 9 [.agg (Book.avs a0)] (.bool r) := by
  unfold l_FnExactEncodeBook at h
  refine ac_fn mixed Try.func9 rfl rfl rfl (by kernel_rfl) (by kernel_rfl) ?_
  try simp only [go_sem, Nat.reduceEqDiff, reduceIte, Nat.reduceAdd, Nat.reduceMul, Nat.reduceLeDiff, Nat.reduceLT]
  replace h := bindE h
  obtain ⟨v3002, hv3002, h⟩ := h
  refine call_i (l_szBook_ok _ _ _ hv3002) ?_
  try simp only [go_sem, Nat.reduceEqDiff, reduceIte, Nat.reduceAdd, Nat.reduceMul, Nat.reduceLeDiff, Nat.reduceLT]
  refine cond_i (fun hb1 => ?_) (fun hb1 => ?_)
  · replace h := ifT (c := (decide (v3002 < 0))) hb1 h
    try simp only [go_sem, Nat.reduceEqDiff, reduceIte, Nat.reduceAdd, Nat.reduceMul, Nat.reduceLeDiff, Nat.reduceLT]
    replace h := Option.some.inj h
    obtain rfl := h
    simp only [go_sem, Nat.reduceEqDiff, reduceIte, Nat.reduceAdd, Nat.reduceMul, Nat.reduceLeDiff, Nat.reduceLT]
  · replace h := ifF (c := (decide (v3002 < 0))) hb1 h
    try simp only [go_sem, Nat.reduceEqDiff, reduceIte, Nat.reduceAdd, Nat.reduceMul, Nat.reduceLeDiff, Nat.reduceLT]
    refine seq_go ?_
    try simp only [go_sem, Nat.reduceEqDiff, reduceIte, Nat.reduceAdd, Nat.reduceMul, Nat.reduceLeDiff, Nat.reduceLT]
    replace h := bindE h
    obtain ⟨v6001, hv6001, h⟩ := h
    refine call_i (l_toBook_ok _ _ hv6001) ?_
    try simp only [go_sem, Nat.reduceEqDiff, reduceIte, Nat.reduceAdd, Nat.reduceMul, Nat.reduceLeDiff, Nat.reduceLT]
    replace h := bindE h
    obtain ⟨v6002, hv6002, h⟩ := h
    refine call_i (s_EncodeBook_ok _ _ hv6002) ?_
    try simp only [go_sem, Nat.reduceEqDiff, reduceIte, Nat.reduceAdd, Nat.reduceMul, Nat.reduceLeDiff, Nat.reduceLT]
    replace h := bindE h
    obtain ⟨v7001, hv7001, h⟩ := h
    refine call_i (l_toBook_ok _ _ hv7001) ?_
    try simp only [go_sem, Nat.reduceEqDiff, reduceIte, Nat.reduceAdd, Nat.reduceMul, Nat.reduceLeDiff, Nat.reduceLT]
    replace h := bindE h
    obtain ⟨v8001, hv8001, h⟩ := h
    refine call_i (i_EncodeBook_ok _ _ hv8001) ?_
    try simp only [go_sem, Nat.reduceEqDiff, reduceIte, Nat.reduceAdd, Nat.reduceMul, Nat.reduceLeDiff, Nat.reduceLT]
    replace h := bindE h
    obtain ⟨v9002, hv9002, h⟩ := h
    refine call_i (l_eqByteS_ok _ _ _ hv9002) ?_
    try simp only [go_sem, Nat.reduceEqDiff, reduceIte, Nat.reduceAdd, Nat.reduceMul, Nat.reduceLeDiff, Nat.reduceLT]
    refine cond_i (fun hb2 => ?_) (fun hb2 => ?_)
    · replace h := ifT (c := (!v9002)) hb2 h
      try simp only [go_sem, Nat.reduceEqDiff, reduceIte, Nat.reduceAdd, Nat.reduceMul, Nat.reduceLeDiff, Nat.reduceLT]
      have hj := posF_to rfl rfl (l_FnExactEncodeBook_j1_ok a0 v6002 v7001 v8001 true _ h)
      refine seq_to hj (.one ⟨_, .done _, [(1000000000, 96032), (1000000001, 112016), (1000000002, 128016)], [(1000000500, 1000), (1000000501, 7002)], ?_⟩)
      clear hj
      try simp only [go_sem, Nat.reduceEqDiff, reduceIte, Nat.reduceAdd, Nat.reduceMul, Nat.reduceLeDiff, Nat.reduceLT]
    · replace h := ifF (c := (!v9002)) hb2 h
      try simp only [go_sem, Nat.reduceEqDiff, reduceIte, Nat.reduceAdd, Nat.reduceMul, Nat.reduceLeDiff, Nat.reduceLT]
      have hj := posF_to rfl rfl (l_FnExactEncodeBook_j1_ok a0 v6002 v7001 v8001 (!decide (v8001.2 = v6002.2)) _ h)
      refine seq_to hj (.one ⟨_, .done _, [(1000000000, 96032), (1000000001, 112016), (1000000002, 128016)], [(1000000500, 1000), (1000000501, 7002)], ?_⟩)
      clear hj
      try simp only [go_sem, Nat.reduceEqDiff, reduceIte, Nat.reduceAdd, Nat.reduceMul, Nat.reduceLeDiff, Nat.reduceLT]
end Go.Proofs.Ytffokcfdkkikmaa.Ab
