/-
  The functions do what their models say. Printed by wip/ab/gen.py.
-/
import Derived.Test.YtffokcfdkkikmaaModY
import Derived.Test.YtffokcfdkkikmaaTi2
import Derived.Test.YtffokcfdkkikmaaWlkW
namespace Go.Proofs.Ytffokcfdkkikmaa.Ab
set_option linter.unusedVariables false
set_option linter.unusedSimpArgs false
set_option maxRecDepth 20000
set_option maxHeartbeats 4000000
open Go.RowKit

theorem s_l00Has_l1_all (n : Nat) : (∀ (a0 : List Int) (a1 : Int) (p0_0 : Int) (r : Bool), s_l00Has_l1 n a0 a1 p0_0 = some r → posF Try.prog Try.f129 [1, 0, 1, 0] (.bool r) ⟨[(0, .ro (List.map i64D a0)), (1, .int .i64 a1), (5, .int .i64 p0_0)], [], []⟩) := by
  induction n with
  | zero => exact ((fun _ _ _ _ h => by rw [s_l00Has_l1] at h; cases h))
  | succ n ih =>
    have ih0 := ih
    · intro a0 a1 p0_0 r h
      rw [s_l00Has_l1] at h
      refine posF_of rfl rfl ?_
      try simp only [go_sem]
      refine loop_i ?_
      try simp only [go_sem]
      refine cond_i (fun hb1 => ?_) (fun hb1 => ?_)
      · replace h := ifT (c := (decide (p0_0 < ((List.length a0 : Nat) : Int)))) hb1 h
        try simp only [go_sem]
        refine seq_go ?_
        try simp only [go_sem]
        replace h := bindE h
        obtain ⟨v5002, hv5002, h⟩ := h
        refine idx_m hv5002 rfl ?_
        try simp only [go_sem]
        refine cond_i (fun hb2 => ?_) (fun hb2 => ?_)
        · replace h := ifT (c := (decide (v5002 = a1))) hb2 h
          try simp only [go_sem]
          replace h := Option.some.inj h
          obtain rfl := h
          simp only [go_sem]
        · replace h := ifF (c := (decide (v5002 = a1))) hb2 h
          try simp only [go_sem]
          refine seq_go ?_
          try simp only [go_sem]
          have hj := posF_to rfl rfl (ih0 a0 a1 (IntKind.i64.wrap (p0_0 + 1)) _ h)
          refine lp_to hj (.one ⟨_, .done _, [], [], ?_⟩)
          clear hj
          try simp only [go_sem]
      · replace h := ifF (c := (decide (p0_0 < ((List.length a0 : Nat) : Int)))) hb1 h
        try simp only [go_sem]
        refine seq_go ?_
        try simp only [go_sem]
        replace h := Option.some.inj h
        obtain rfl := h
        simp only [go_sem]
theorem s_l00Has_l1_ok (n : Nat) : (∀ (a0 : List Int) (a1 : Int) (p0_0 : Int) (r : Bool), s_l00Has_l1 n a0 a1 p0_0 = some r → posF Try.prog Try.f129 [1, 0, 1, 0] (.bool r) ⟨[(0, .ro (List.map i64D a0)), (1, .int .i64 a1), (5, .int .i64 p0_0)], [], []⟩) := (s_l00Has_l1_all n)

theorem s_l00Has_ok (a0 : List Int) (a1 : Int) (r : Bool) (h : s_l00Has a0 a1 = some r) : AC Try.prog 129 [.ro (List.map i64D a0), .int .i64 a1] (.bool r) := by
  unfold s_l00Has at h
  refine ac_fn mixed Try.func129 rfl rfl rfl (by kernel_rfl) (by kernel_rfl) ?_
  try simp only [go_sem]
  have hj := posF_to rfl rfl (s_l00Has_l1_ok fuel a0 a1 0 _ h)
  refine loop_to hj (.one ⟨_, .done _, [], [], ?_⟩)
  clear hj
  try simp only [go_sem]
theorem s_l00Own_ok (a0 : List Int) (r : (List Int)) (h : s_l00Own a0 = some r) : AC Try.prog 149 [.ro (List.map i64D a0)] (.ow (some 1) (List.map i64D r)) := by
  unfold s_l00Own at h
  refine ac_fn mixed Try.func149 rfl rfl rfl (by kernel_rfl) (by kernel_rfl) ?_
  try simp only [go_sem]
  replace h := bindE h
  obtain ⟨v2002, hv2002, h⟩ := h
  have hq_ := app_some hv2002
  obtain ⟨hv2002a, hv2002b⟩ := hq_
  refine and_i (flat_rows_of (by intro x; exact ⟨rfl, by simp [go_sem, D.flat]⟩) _) ?_
  try simp only [go_sem]
  refine and_i (by refine ⟨?_, ?_⟩ <;> (try simp only [List.length_map, List.length_append, List.length_cons, List.length_nil] at *) <;> (try unfold maxLen) <;> omega) ?_
  try simp only [go_sem]
  refine row_i (List.map i64D v2002) (by rw [← hv2002b]; simp only [List.map_append, List.map_cons, List.map_nil, List.nil_append, List.append_nil, go_sem, slD]) ?_
  try simp only [go_sem]
  replace h := Option.some.inj h
  obtain rfl := h
  simp only [go_sem]
theorem g_Index_sint64_l1_all (n : Nat) : (∀ (a0 : List Int) (a1 : Int) (p0_0 : Int) (r : Int), g_Index_sint64_l1 n a0 a1 p0_0 = some r → posF Try.prog Try.f135 [1, 0, 1, 0] (.int .i64 r) ⟨[(0, .ro (List.map i64D a0)), (1, .int .i64 a1), (7, .int .i64 ((List.length a0 : Nat) : Int)), (8, .int .i64 p0_0)], [], []⟩) := by
  induction n with
  | zero => exact ((fun _ _ _ _ h => by rw [g_Index_sint64_l1] at h; cases h))
  | succ n ih =>
    have ih0 := ih
    · intro a0 a1 p0_0 r h
      rw [g_Index_sint64_l1] at h
      refine posF_of rfl rfl ?_
      try simp only [go_sem]
      refine loop_i ?_
      try simp only [go_sem]
      refine cond_i (fun hb1 => ?_) (fun hb1 => ?_)
      · replace h := ifT (c := (decide (p0_0 < ((List.length a0 : Nat) : Int)))) hb1 h
        try simp only [go_sem]
        refine seq_go ?_
        try simp only [go_sem]
        replace h := bindE h
        obtain ⟨v5003, hv5003, h⟩ := h
        refine idx_m hv5003 rfl ?_
        try simp only [go_sem]
        refine cond_i (fun hb2 => ?_) (fun hb2 => ?_)
        · replace h := ifT (c := (decide (a1 = v5003))) hb2 h
          try simp only [go_sem]
          replace h := Option.some.inj h
          obtain rfl := h
          simp only [go_sem]
        · replace h := ifF (c := (decide (a1 = v5003))) hb2 h
          try simp only [go_sem]
          refine seq_go ?_
          try simp only [go_sem]
          have hj := posF_to rfl rfl (ih0 a0 a1 (IntKind.i64.wrap (p0_0 + 1)) _ h)
          refine lp_to hj (.one ⟨_, .done _, [], [], ?_⟩)
          clear hj
          try simp only [go_sem]
      · replace h := ifF (c := (decide (p0_0 < ((List.length a0 : Nat) : Int)))) hb1 h
        try simp only [go_sem]
        refine seq_go ?_
        try simp only [go_sem]
        replace h := Option.some.inj h
        obtain rfl := h
        simp only [go_sem]
theorem g_Index_sint64_l1_ok (n : Nat) : (∀ (a0 : List Int) (a1 : Int) (p0_0 : Int) (r : Int), g_Index_sint64_l1 n a0 a1 p0_0 = some r → posF Try.prog Try.f135 [1, 0, 1, 0] (.int .i64 r) ⟨[(0, .ro (List.map i64D a0)), (1, .int .i64 a1), (7, .int .i64 ((List.length a0 : Nat) : Int)), (8, .int .i64 p0_0)], [], []⟩) := (g_Index_sint64_l1_all n)

theorem g_Index_sint64_ok (a0 : List Int) (a1 : Int) (r : Int) (h : g_Index_sint64 a0 a1 = some r) : AC Try.prog 135 [.ro (List.map i64D a0), .int .i64 a1] (.int .i64 r) := by
  unfold g_Index_sint64 at h
  refine ac_fn mixed Try.func135 rfl rfl rfl (by kernel_rfl) (by kernel_rfl) ?_
  try simp only [go_sem]
  have hj := posF_to rfl rfl (g_Index_sint64_l1_ok fuel a0 a1 0 _ h)
  refine loop_to hj (.one ⟨_, .done _, [], [], ?_⟩)
  clear hj
  try simp only [go_sem]
theorem g_Contains_sint64_ok (a0 : List Int) (a1 : Int) (r : Bool) (h : g_Contains_sint64 a0 a1 = some r) : AC Try.prog 132 [.ro (List.map i64D a0), .int .i64 a1] (.bool r) := by
  unfold g_Contains_sint64 at h
  refine ac_fn mixed Try.func132 rfl rfl rfl (by kernel_rfl) (by kernel_rfl) ?_
  try simp only [go_sem]
  replace h := bindE h
  obtain ⟨v2002, hv2002, h⟩ := h
  refine call_i (g_Index_sint64_ok _ _ _ hv2002) ?_
  try simp only [go_sem]
  replace h := Option.some.inj h
  obtain rfl := h
  simp only [go_sem]
theorem g_Clone_sint64_ok (a0 : List Int) (r : (List Int)) (h : g_Clone_sint64 a0 = some r) : AC Try.prog 152 [.ro (List.map i64D a0)] (.ow (some 1) (List.map i64D r)) := by
  unfold g_Clone_sint64 at h
  refine ac_fn mixed Try.func152 rfl rfl rfl (by kernel_rfl) (by kernel_rfl) ?_
  try simp only [go_sem]
  refine nil_i (by simp only [go_sem]) (fun h0 => ?_) ?_
  · try simp only [go_sem]
    have hq_ := List.map_eq_nil_iff.1 h0
    obtain rfl := hq_
    obtain rfl : r = [] := by cases h; rfl
    simp only [go_sem]
  · try simp only [go_sem]
    refine seq_go ?_
    try simp only [go_sem]
    replace h := bindE h
    obtain ⟨v4002, hv4002, h⟩ := h
    have hq_ := app_some hv4002
    obtain ⟨hv4002a, hv4002b⟩ := hq_
    refine and_i (flat_rows_of (by intro x; exact ⟨rfl, by simp [go_sem, D.flat]⟩) _) ?_
    try simp only [go_sem]
    refine and_i (by refine ⟨?_, ?_⟩ <;> (try simp only [List.length_map, List.length_append, List.length_cons, List.length_nil] at *) <;> (try unfold maxLen) <;> omega) ?_
    try simp only [go_sem]
    refine row_i (List.map i64D v4002) (by rw [← hv4002b]; simp only [List.map_append, List.map_cons, List.map_nil, List.nil_append, List.append_nil, go_sem, slD]) ?_
    try simp only [go_sem]
    replace h := Option.some.inj h
    obtain rfl := h
    simp only [go_sem]
theorem i_Book_reachableFrom_l12_all (n : Nat) : (∀ (a0 : Book) (p3_0 : List Int) (p3_1 : Int) (r : (List Int)), i_Book_reachableFrom_l12 n a0 p3_0 p3_1 = some r → posF Try.prog Try.f131 [1, 1, 0, 1, 0] (.ow (some 1) (List.map i64D r)) ⟨[(2, .box 1000003500 0), (5, .own 1000003000), (6, .int .i64 p3_1)], [(1000003000, some ⟨List.map i64D p3_0, some 1, 0⟩)], [(1000003500, some [.ro (List.map Core.ds a0.defs)])]⟩) ∧
    (∀ (a0 : Book) (p3_1 : Int) (v6005 : (List Int)) (p5_0 : List Int) (p5_1 : Int) (r : (List Int)), i_Book_reachableFrom_l14 n a0 p3_1 v6005 p5_0 p5_1 = some r → posF Try.prog Try.f131 [1, 1, 0, 1, 0, 0, 1, 0, 0, 1, 0] (.ow (some 1) (List.map i64D r)) ⟨[(2, .box 1000005500 0), (5, .own 1000005000), (6, .int .i64 p3_1), (22, .own 1000005001), (23, .int .i64 ((List.length v6005 : Nat) : Int)), (24, .int .i64 p5_1)], [(1000005000, some ⟨List.map i64D p5_0, some 1, 0⟩), (1000005001, some ⟨List.map i64D v6005, some 1, 0⟩)], [(1000005500, some [.ro (List.map Core.ds a0.defs)])]⟩) := by
  induction n with
  | zero => exact ⟨(fun _ _ _ _ h => by rw [i_Book_reachableFrom_l12] at h; cases h), (fun _ _ _ _ _ _ h => by rw [i_Book_reachableFrom_l14] at h; cases h)⟩
  | succ n ih =>
    obtain ⟨ih0, ih1⟩ := ih
    refine ⟨?_, ?_⟩
    · intro a0 p3_0 p3_1 r h
      rw [i_Book_reachableFrom_l12] at h
      refine posF_of rfl rfl ?_
      try simp only [go_sem]
      refine loop_i ?_
      try simp only [go_sem]
      refine cond_i (fun hb1 => ?_) (fun hb1 => ?_)
      · replace h := ifT (c := (decide (p3_1 < ((List.length p3_0 : Nat) : Int)))) hb1 h
        try simp only [go_sem]
        refine seq_go ?_
        try simp only [go_sem]
        refine draw_i [] .fin (by kernel_rfl) ?_
        try simp only [go_sem]
        replace h := bindE h
        obtain ⟨v6003, hv6003, h⟩ := h
        refine idx_m hv6003 rfl ?_
        try simp only [go_sem]
        refine opt_i (row_m hv6003) ?_
        try simp only [go_sem]
        replace h := bindE h
        obtain ⟨v6005, hv6005, h⟩ := h
        refine call_i (i_Book_usesIn_ok _ _ _ hv6005) ?_
        try simp only [go_sem]
        refine seq_go ?_
        try simp only [go_sem]
        have hj := posF_to rfl rfl (ih1 a0 p3_1 v6005 p3_0 0 _ h)
        refine loop_to hj (.one ⟨_, .done _, [(1000005000, 1000003000), (1000005001, 96080)], [(1000005500, 1000003500)], ?_⟩)
        clear hj
        try simp only [go_sem]
      · replace h := ifF (c := (decide (p3_1 < ((List.length p3_0 : Nat) : Int)))) hb1 h
        try simp only [go_sem]
        refine seq_go ?_
        try simp only [go_sem]
        replace h := bindE h
        obtain ⟨v12001, hv12001, h⟩ := h
        refine call_g ⟨[], [(1, 1000003000)], [], [], [], true⟩ (by kernel_rfl) (g_Sort_sint64_ok _ (some 1) _ hv12001) (by kernel_rfl) ?_
        try simp only [go_sem]
        replace h := bindE h
        obtain ⟨v13001, hv13001, h⟩ := h
        refine call_g ⟨[], [(1001, 1000003000)], [], [(1501, 208016)], [], true⟩ (by kernel_rfl) (g_Compact_sint64_ok _ _ hv13001) (by kernel_rfl) ?_
        try simp only [go_sem]
        replace h := Option.some.inj h
        obtain rfl := h
        simp only [go_sem]
    · intro a0 p3_1 v6005 p5_0 p5_1 r h
      rw [i_Book_reachableFrom_l14] at h
      refine posF_of rfl rfl ?_
      try simp only [go_sem]
      refine loop_i ?_
      try simp only [go_sem]
      refine cond_i (fun hb2 => ?_) (fun hb2 => ?_)
      · replace h := ifT (c := (decide (p5_1 < ((List.length v6005 : Nat) : Int)))) hb2 h
        try simp only [go_sem]
        refine seq_go ?_
        try simp only [go_sem]
        replace h := bindE h
        obtain ⟨v8000, hv8000, h⟩ := h
        refine idx_m hv8000 rfl ?_
        try simp only [go_sem]
        refine opt_i (row_m hv8000) ?_
        try simp only [go_sem]
        replace h := bindE h
        obtain ⟨v9002, hv9002, h⟩ := h
        refine call_i (g_Contains_sint64_ok _ _ _ hv9002) ?_
        try simp only [go_sem]
        refine cond_i (fun hb3 => ?_) (fun hb3 => ?_)
        · replace h := ifT (c := (!v9002)) hb3 h
          try simp only [go_sem]
          replace h := bindE h
          obtain ⟨v10003, hv10003, h⟩ := h
          have hq_ := app_some hv10003
          obtain ⟨hv10003a, hv10003b⟩ := hq_
          refine and_i (by refine ⟨?_, ?_⟩ <;> (try simp only [List.length_map, List.length_append, List.length_cons, List.length_nil] at *) <;> (try unfold maxLen) <;> omega) ?_
          try simp only [go_sem]
          refine row_i (List.map i64D v10003) (by rw [← hv10003b]; simp only [List.map_append, List.map_cons, List.map_nil, List.nil_append, List.append_nil, go_sem, slD]) ?_
          try simp only [go_sem]
          refine seq_go ?_
          try simp only [go_sem]
          have hj := posF_to rfl rfl (ih1 a0 p3_1 v6005 v10003 (IntKind.i64.wrap (p5_1 + 1)) _ h)
          refine lp_to hj (.one ⟨_, .done _, [(1000005000, 160048), (1000005001, 1000005001)], [(1000005500, 1000005500)], ?_⟩)
          clear hj
          try simp only [go_sem]
        · replace h := ifF (c := (!v9002)) hb3 h
          try simp only [go_sem]
          refine seq_go ?_
          try simp only [go_sem]
          have hj := posF_to rfl rfl (ih1 a0 p3_1 v6005 p5_0 (IntKind.i64.wrap (p5_1 + 1)) _ h)
          refine lp_to hj (.one ⟨_, .done _, [(1000005000, 1000005000), (1000005001, 1000005001)], [(1000005500, 1000005500)], ?_⟩)
          clear hj
          try simp only [go_sem]
      · replace h := ifF (c := (decide (p5_1 < ((List.length v6005 : Nat) : Int)))) hb2 h
        try simp only [go_sem]
        refine seq_go ?_
        try simp only [go_sem]
        have hj := posF_to rfl rfl (ih0 a0 p5_0 (IntKind.i64.wrap (p3_1 + 1)) _ h)
        refine lp_to hj (.one ⟨_, .done _, [(1000003000, 1000005000)], [(1000003500, 1000005500)], ?_⟩)
        clear hj
        try simp only [go_sem]
theorem i_Book_reachableFrom_l12_ok (n : Nat) : (∀ (a0 : Book) (p3_0 : List Int) (p3_1 : Int) (r : (List Int)), i_Book_reachableFrom_l12 n a0 p3_0 p3_1 = some r → posF Try.prog Try.f131 [1, 1, 0, 1, 0] (.ow (some 1) (List.map i64D r)) ⟨[(2, .box 1000003500 0), (5, .own 1000003000), (6, .int .i64 p3_1)], [(1000003000, some ⟨List.map i64D p3_0, some 1, 0⟩)], [(1000003500, some [.ro (List.map Core.ds a0.defs)])]⟩) := (i_Book_reachableFrom_l12_all n).1
theorem i_Book_reachableFrom_l14_ok (n : Nat) : (∀ (a0 : Book) (p3_1 : Int) (v6005 : (List Int)) (p5_0 : List Int) (p5_1 : Int) (r : (List Int)), i_Book_reachableFrom_l14 n a0 p3_1 v6005 p5_0 p5_1 = some r → posF Try.prog Try.f131 [1, 1, 0, 1, 0, 0, 1, 0, 0, 1, 0] (.ow (some 1) (List.map i64D r)) ⟨[(2, .box 1000005500 0), (5, .own 1000005000), (6, .int .i64 p3_1), (22, .own 1000005001), (23, .int .i64 ((List.length v6005 : Nat) : Int)), (24, .int .i64 p5_1)], [(1000005000, some ⟨List.map i64D p5_0, some 1, 0⟩), (1000005001, some ⟨List.map i64D v6005, some 1, 0⟩)], [(1000005500, some [.ro (List.map Core.ds a0.defs)])]⟩) := (i_Book_reachableFrom_l12_all n).2

theorem i_Book_reachableFrom_ok (a0 : Book) (a1 : List Int) (r : (List Int)) (h : i_Book_reachableFrom a0 a1 = some r) : AC Try.prog 131 [.agg (Book.avs a0), .ro (List.map i64D a1)] (.ow (some 1) (List.map i64D r)) := by
  unfold i_Book_reachableFrom at h
  refine ac_fn mixed Try.func131 rfl rfl rfl (by kernel_rfl) (by kernel_rfl) ?_
  try simp only [go_sem]
  replace h := bindE h
  obtain ⟨v2001, hv2001, h⟩ := h
  refine call_i (g_Clone_sint64_ok _ _ hv2001) ?_
  try simp only [go_sem]
  have hj := posF_to rfl rfl (i_Book_reachableFrom_l12_ok fuel a0 v2001 0 _ h)
  refine loop_to hj (.one ⟨_, .done _, [(1000003000, 32016)], [(1000003500, 1000)], ?_⟩)
  clear hj
  try simp only [go_sem]
end Go.Proofs.Ytffokcfdkkikmaa.Ab
