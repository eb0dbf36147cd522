/-
  The functions do what their models say. Printed by wip/ab/gen.py.
-/
import Derived.Test.YtlmanchbpommaaaDoorModF
import Derived.Test.YtlmanchbpommaaaDoorTi2
import Derived.Test.YtlmanchbpommaaaDoorFmtW
import Derived.Test.YtlmanchbpommaaaDoorWlk
namespace Go.Proofs.YtlmanchbpommaaaDoor.Ab
set_option linter.unusedVariables false
set_option linter.unusedSimpArgs false
set_option maxRecDepth 20000
set_option maxHeartbeats 4000000
open Go.RowKit

theorem i_Decimal_ok (a0 : Int) (r : ByteArray) (h : i_Decimal a0 = some r) : AC Tryd.prog 22 [.int .i64 a0] (.str r) := by
  unfold i_Decimal at h
  refine ac_fn mixed Tryd.func22 rfl rfl rfl (by kernel_rfl) (by kernel_rfl) ?_
  try simp only [go_sem]
  replace h := bindE h
  obtain ⟨v2001, hv2001, h⟩ := h
  refine call_i (g_FormatInt_ok _ _ _ hv2001) ?_
  try simp only [go_sem]
  replace h := Option.some.inj h
  obtain rfl := h
  simp only [go_sem]
theorem s_Decimal_l12_all (n : Nat) : (∀ (p5_0 : List Int) (p7_0 : List Int) (p7_1 : Int) (r : ByteArray), s_Decimal_l12 n p5_0 p7_0 p7_1 = some r → posF Tryd.prog Tryd.f20 [1, 1, 1, 1, 1, 1, 1, 0, 1, 0] (.str r) ⟨[(3, .own 1000007000), (6, .own 1000007001), (7, .int .i64 p7_1)], [(1000007000, some ⟨List.map u8D p5_0, some 1, 0⟩), (1000007001, some ⟨List.map u8D p7_0, some 1, 0⟩)], []⟩) := by
  induction n with
  | zero => exact ((fun _ _ _ _ h => by rw [s_Decimal_l12] at h; cases h))
  | succ n ih =>
    have ih0 := ih
    · intro p5_0 p7_0 p7_1 r h
      rw [s_Decimal_l12] at h
      refine posF_of rfl rfl ?_
      try simp only [go_sem]
      refine loop_i ?_
      try simp only [go_sem]
      refine cond_i (fun hb5 => ?_) (fun hb5 => ?_)
      · replace h := ifT (c := (decide (0 ≤ p7_1))) hb5 h
        try simp only [go_sem]
        refine seq_go ?_
        try simp only [go_sem]
        replace h := bindE h
        obtain ⟨v18003, hv18003, h⟩ := h
        refine idx_m hv18003 rfl ?_
        try simp only [go_sem]
        refine opt_i (row_m hv18003) ?_
        try simp only [go_sem]
        replace h := bindE h
        obtain ⟨v18006, hv18006, h⟩ := h
        have hq_ := app_some hv18006
        obtain ⟨hv18006a, hv18006b⟩ := hq_
        refine and_i (by refine ⟨?_, ?_⟩ <;> (try simp only [List.length_map, List.length_append, List.length_cons, List.length_nil] at *) <;> (try unfold maxLen) <;> omega) ?_
        try simp only [go_sem]
        refine row_i (List.map u8D v18006) (by rw [← hv18006b]; simp only [List.map_append, List.map_cons, List.map_nil, List.nil_append, List.append_nil, go_sem, slD]) ?_
        try simp only [go_sem]
        refine seq_go ?_
        try simp only [go_sem]
        have hj := posF_to rfl rfl (ih0 p5_0 v18006 (IntKind.i64.wrap (p7_1 - 1)) _ h)
        refine lp_to hj (.one ⟨_, .done _, [(1000007000, 1000007000), (1000007001, 288096)], [], ?_⟩)
        clear hj
        try simp only [go_sem]
      · replace h := ifF (c := (decide (0 ≤ p7_1))) hb5 h
        try simp only [go_sem]
        refine seq_go ?_
        try simp only [go_sem]
        replace h := bindE h
        obtain ⟨v19001, hv19001, h⟩ := h
        have hq_ := strN_some hv19001
        obtain ⟨hv19001a, hv19001b⟩ := hq_
        refine str_i (ns := p7_0) hv19001a ?_
        rw [hv19001b]
        try simp only [go_sem]
        replace h := Option.some.inj h
        obtain rfl := h
        simp only [go_sem]
theorem s_Decimal_l12_ok (n : Nat) : (∀ (p5_0 : List Int) (p7_0 : List Int) (p7_1 : Int) (r : ByteArray), s_Decimal_l12 n p5_0 p7_0 p7_1 = some r → posF Tryd.prog Tryd.f20 [1, 1, 1, 1, 1, 1, 1, 0, 1, 0] (.str r) ⟨[(3, .own 1000007000), (6, .own 1000007001), (7, .int .i64 p7_1)], [(1000007000, some ⟨List.map u8D p5_0, some 1, 0⟩), (1000007001, some ⟨List.map u8D p7_0, some 1, 0⟩)], []⟩) := (s_Decimal_l12_all n)

theorem s_Decimal_j10_ok (p5_0 : List Int) (r : ByteArray) (h : s_Decimal_j10 p5_0 = some r) : posF Tryd.prog Tryd.f20 [1, 1, 1, 1, 1, 1] (.str r) ⟨[(3, .own 1000005000)], [(1000005000, some ⟨List.map u8D p5_0, some 1, 0⟩)], []⟩ := by
  unfold s_Decimal_j10 at h
  refine posF_of rfl rfl ?_
  try simp only [go_sem]
  have hj := posF_to rfl rfl (s_Decimal_l12_ok fuel p5_0 [] (IntKind.i64.wrap (((List.length p5_0 : Nat) : Int) - 1)) _ h)
  refine loop_to hj (.one ⟨_, .lit 6 2000000000 14000 0 1 [] _ _ (by (first | rfl | (simp only [go_sem]; rfl))) (by simp only [go_sem]; rfl) (by (first | rfl | (simp only [go_sem]; rfl))) (by (first | rfl | (simp only [go_sem]; rfl))) (by decide) (by decide) (by simp only [go_sem]) (.done _), [(1000007000, 1000005000), (1000007001, 2000000000)], [], ?_⟩)
  clear hj
  simp only [go_sem]
  all_goals try rfl
theorem s_Decimal_j9_ok (a0 : Int) (p4_0 : List Int) (r : ByteArray) (h : s_Decimal_j9 a0 p4_0 = some r) : posF Tryd.prog Tryd.f20 [1, 1, 1, 1, 1] (.str r) ⟨[(0, .int .i64 a0), (3, .own 1000004000)], [(1000004000, some ⟨List.map u8D p4_0, some 1, 0⟩)], []⟩ := by
  unfold s_Decimal_j9 at h
  refine posF_of rfl rfl ?_
  try simp only [go_sem]
  refine cond_i (fun hb4 => ?_) (fun hb4 => ?_)
  · replace h := ifT (c := (decide (a0 < 0))) hb4 h
    try simp only [go_sem]
    replace h := bindE h
    obtain ⟨v13002, hv13002, h⟩ := h
    have hq_ := app_some hv13002
    obtain ⟨hv13002a, hv13002b⟩ := hq_
    refine and_i (by refine ⟨?_, ?_⟩ <;> (try simp only [List.length_map, List.length_append, List.length_cons, List.length_nil] at *) <;> (try unfold maxLen) <;> omega) ?_
    try simp only [go_sem]
    refine row_i (List.map u8D v13002) (by rw [← hv13002b]; simp only [List.map_append, List.map_cons, List.map_nil, List.nil_append, List.append_nil, go_sem, slD]) ?_
    try simp only [go_sem]
    have hj := posF_to rfl rfl (s_Decimal_j10_ok v13002 _ h)
    refine seq_to hj (.one ⟨_, .done _, [(1000005000, 208032)], [], ?_⟩)
    clear hj
    try simp only [go_sem]
  · replace h := ifF (c := (decide (a0 < 0))) hb4 h
    try simp only [go_sem]
    have hj := posF_to rfl rfl (s_Decimal_j10_ok p4_0 _ h)
    refine seq_to hj (.one ⟨_, .done _, [(1000005000, 1000004000)], [], ?_⟩)
    clear hj
    try simp only [go_sem]
theorem s_Decimal_l7_all (n : Nat) : (∀ (a0 : Int) (p2_0 : List Int) (p2_1 : Int) (r : ByteArray), s_Decimal_l7 n a0 p2_0 p2_1 = some r → posF Tryd.prog Tryd.f20 [1, 1, 1, 0, 0] (.str r) ⟨[(0, .int .i64 a0), (3, .own 1000002000), (4, .int .i64 p2_1)], [(1000002000, some ⟨List.map u8D p2_0, some 1, 0⟩)], []⟩) ∧
    (∀ (a0 : Int) (p2_0 : List Int) (p2_1 : Int) (p3_0 : Int) (r : ByteArray), s_Decimal_j8 n a0 p2_0 p2_1 p3_0 = some r → posF Tryd.prog Tryd.f20 [1, 1, 1, 0, 0, 0, 1, 0, 1, 1] (.str r) ⟨[(0, .int .i64 a0), (3, .own 1000003000), (4, .int .i64 p2_1), (5, .int .i64 p3_0)], [(1000003000, some ⟨List.map u8D p2_0, some 1, 0⟩)], []⟩) := by
  induction n with
  | zero => exact ⟨(fun _ _ _ _ h => by rw [s_Decimal_l7] at h; cases h), (fun _ _ _ _ _ h => by rw [s_Decimal_j8] at h; cases h)⟩
  | succ n ih =>
    obtain ⟨ih0, ih1⟩ := ih
    refine ⟨?_, ?_⟩
    · intro a0 p2_0 p2_1 r h
      rw [s_Decimal_l7] at h
      refine posF_of rfl rfl ?_
      try simp only [go_sem]
      refine loop_i ?_
      try simp only [go_sem]
      refine cond_i (fun hb1 => ?_) (fun hb1 => ?_)
      · replace h := ifT (c := (!decide (p2_1 = 0))) hb1 h
        try simp only [go_sem]
        refine seq_go ?_
        try simp only [go_sem]
        refine and_i (by decide) ?_
        try simp only [go_sem]
        refine cond_i (fun hb2 => ?_) (fun hb2 => ?_)
        · replace h := ifT (c := (decide ((Int.tmod p2_1 10) < 0))) hb2 h
          try simp only [go_sem]
          have hj := posF_to rfl rfl (ih1 a0 p2_0 p2_1 (IntKind.i64.wrap (0 - (Int.tmod p2_1 10))) _ h)
          refine seq_to hj (.one ⟨_, .done _, [(1000003000, 1000002000)], [], ?_⟩)
          clear hj
          try simp only [go_sem]
        · replace h := ifF (c := (decide ((Int.tmod p2_1 10) < 0))) hb2 h
          try simp only [go_sem]
          have hj := posF_to rfl rfl (ih1 a0 p2_0 p2_1 (Int.tmod p2_1 10) _ h)
          refine seq_to hj (.one ⟨_, .done _, [(1000003000, 1000002000)], [], ?_⟩)
          clear hj
          try simp only [go_sem]
      · replace h := ifF (c := (!decide (p2_1 = 0))) hb1 h
        try simp only [go_sem]
        refine seq_go ?_
        try simp only [go_sem]
        refine cond_i (fun hb3 => ?_) (fun hb3 => ?_)
        · replace h := ifT (c := (decide (a0 = 0))) hb3 h
          try simp only [go_sem]
          replace h := bindE h
          obtain ⟨v11002, hv11002, h⟩ := h
          have hq_ := app_some hv11002
          obtain ⟨hv11002a, hv11002b⟩ := hq_
          refine and_i (by refine ⟨?_, ?_⟩ <;> (try simp only [List.length_map, List.length_append, List.length_cons, List.length_nil] at *) <;> (try unfold maxLen) <;> omega) ?_
          try simp only [go_sem]
          refine row_i (List.map u8D v11002) (by rw [← hv11002b]; simp only [List.map_append, List.map_cons, List.map_nil, List.nil_append, List.append_nil, go_sem, slD]) ?_
          try simp only [go_sem]
          have hj := posF_to rfl rfl (s_Decimal_j9_ok a0 v11002 _ h)
          refine seq_to hj (.one ⟨_, .done _, [(1000004000, 176032)], [], ?_⟩)
          clear hj
          try simp only [go_sem]
        · replace h := ifF (c := (decide (a0 = 0))) hb3 h
          try simp only [go_sem]
          have hj := posF_to rfl rfl (s_Decimal_j9_ok a0 p2_0 _ h)
          refine seq_to hj (.one ⟨_, .done _, [(1000004000, 1000002000)], [], ?_⟩)
          clear hj
          try simp only [go_sem]
    · intro a0 p2_0 p2_1 p3_0 r h
      rw [s_Decimal_j8] at h
      refine posF_of rfl rfl ?_
      try simp only [go_sem]
      replace h := bindE h
      obtain ⟨v8005, hv8005, h⟩ := h
      have hq_ := app_some hv8005
      obtain ⟨hv8005a, hv8005b⟩ := hq_
      refine and_i (by refine ⟨?_, ?_⟩ <;> (try simp only [List.length_map, List.length_append, List.length_cons, List.length_nil] at *) <;> (try unfold maxLen) <;> omega) ?_
      try simp only [go_sem]
      refine row_i (List.map u8D v8005) (by rw [← hv8005b]; simp only [List.map_append, List.map_cons, List.map_nil, List.nil_append, List.append_nil, go_sem, slD]) ?_
      try simp only [go_sem]
      refine and_i (by decide) ?_
      try simp only [go_sem]
      have hj := posF_to rfl rfl (ih0 a0 v8005 (IntKind.i64.wrap (Int.tdiv p2_1 10)) _ h)
      refine lp_to hj (.one ⟨_, .done _, [(1000002000, 128080)], [], ?_⟩)
      clear hj
      try simp only [go_sem]
theorem s_Decimal_l7_ok (n : Nat) : (∀ (a0 : Int) (p2_0 : List Int) (p2_1 : Int) (r : ByteArray), s_Decimal_l7 n a0 p2_0 p2_1 = some r → posF Tryd.prog Tryd.f20 [1, 1, 1, 0, 0] (.str r) ⟨[(0, .int .i64 a0), (3, .own 1000002000), (4, .int .i64 p2_1)], [(1000002000, some ⟨List.map u8D p2_0, some 1, 0⟩)], []⟩) := (s_Decimal_l7_all n).1
theorem s_Decimal_j8_ok (n : Nat) : (∀ (a0 : Int) (p2_0 : List Int) (p2_1 : Int) (p3_0 : Int) (r : ByteArray), s_Decimal_j8 n a0 p2_0 p2_1 p3_0 = some r → posF Tryd.prog Tryd.f20 [1, 1, 1, 0, 0, 0, 1, 0, 1, 1] (.str r) ⟨[(0, .int .i64 a0), (3, .own 1000003000), (4, .int .i64 p2_1), (5, .int .i64 p3_0)], [(1000003000, some ⟨List.map u8D p2_0, some 1, 0⟩)], []⟩) := (s_Decimal_l7_all n).2

theorem s_Decimal_ok (a0 : Int) (r : ByteArray) (h : s_Decimal a0 = some r) : AC Tryd.prog 20 [.int .i64 a0] (.str r) := by
  unfold s_Decimal at h
  refine ac_fn mixed Tryd.func20 rfl rfl rfl (by kernel_rfl) (by kernel_rfl) ?_
  try simp only [go_sem]
  have hj := posF_to rfl rfl (s_Decimal_l7_ok fuel a0 [] a0 _ h)
  refine loop_to hj (.one ⟨_, .lit 3 2000000000 2000 0 1 [] _ _ (by (first | rfl | (simp only [go_sem]; rfl))) (by simp only [go_sem]; rfl) (by (first | rfl | (simp only [go_sem]; rfl))) (by (first | rfl | (simp only [go_sem]; rfl))) (by decide) (by decide) (by simp only [go_sem]) (.done _), [(1000002000, 2000000000)], [], ?_⟩)
  clear hj
  simp only [go_sem]
  all_goals try rfl
end Go.Proofs.YtlmanchbpommaaaDoor.Ab
