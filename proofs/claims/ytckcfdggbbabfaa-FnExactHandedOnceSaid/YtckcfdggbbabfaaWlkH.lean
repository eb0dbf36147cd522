/-
  The functions do what their models say. Printed by wip/ab/gen.py.
-/
import Derived.Test.YtckcfdggbbabfaaModH
import Derived.Test.YtckcfdggbbabfaaTi2
import Derived.Test.YtckcfdggbbabfaaSqC
import Derived.Test.YtckcfdggbbabfaaWlkD
namespace Go.Proofs.Ytckcfdggbbabfaa.Ab
set_option linter.unusedVariables false
set_option linter.unusedSimpArgs false
set_option maxRecDepth 20000
set_option maxHeartbeats 4000000
open Go.RowKit

theorem s_l23Busy_l2_all (n : Nat) : (∀ (a0 : Deque) (p1_0 : List Int) (p1_1 : Int) (r : (List Int)), s_l23Busy_l2 n a0 p1_0 p1_1 = some r → posF Try.prog Try.f15 [1, 1, 0, 1, 0] (.ow (some 1) (List.map i64D r)) ⟨[(0, .rop [.int .i64 a0.top, .int .i64 a0.bottom, .ro (List.map i64D a0.buffer), .ro (List.map DequeActor.ds a0.actors), .ro (List.map Handed.ds a0.taken), .ro (List.map i64D a0.refused)] 0), (3, .own 1000001000), (4, .int .i64 p1_1)], [(1000001000, some ⟨List.map i64D p1_0, some 1, 0⟩)], []⟩) := by
  induction n with
  | zero => exact ((fun _ _ _ _ h => by rw [s_l23Busy_l2] at h; cases h))
  | succ n ih =>
    have ih0 := ih
    · intro a0 p1_0 p1_1 r h
      rw [s_l23Busy_l2] at h
      refine posF_of rfl rfl ?_
      try simp only [go_sem]
      refine loop_i ?_
      try simp only [go_sem]
      refine cond_i (fun hb1 => ?_) (fun hb1 => ?_)
      · replace h := ifT (c := (decide (p1_1 < ((List.length a0.actors : Nat) : Int)))) hb1 h
        try simp only [go_sem]
        refine seq_go ?_
        try simp only [go_sem]
        replace h := bindE h
        obtain ⟨v6005, hv6005, h⟩ := h
        refine idx_m hv6005 (DequeActor.ds_len _) ?_
        try simp only [go_sem]
        refine cond_i (fun hb2 => ?_) (fun hb2 => ?_)
        · replace h := ifT (c := (decide (0 < ((List.length v6005.todo : Nat) : Int)))) hb2 h
          try simp only [go_sem]
          replace h := bindE h
          obtain ⟨v7003, hv7003, h⟩ := h
          have hq_ := app_some hv7003
          obtain ⟨hv7003a, hv7003b⟩ := hq_
          refine and_i (by refine ⟨?_, ?_⟩ <;> (try simp only [List.length_map, List.length_append, List.length_cons, List.length_nil] at *) <;> (try unfold maxLen) <;> omega) ?_
          try simp only [go_sem]
          refine row_i (List.map i64D v7003) (by rw [← hv7003b]; simp only [List.map_append, List.map_cons, List.map_nil, List.nil_append, List.append_nil, go_sem, slD]) ?_
          try simp only [go_sem]
          refine seq_go ?_
          try simp only [go_sem]
          have hj := posF_to rfl rfl (ih0 a0 v7003 (IntKind.i64.wrap (p1_1 + 1)) _ h)
          refine lp_to hj (.one ⟨_, .done _, [(1000001000, 112048)], [], ?_⟩)
          clear hj
          try simp only [go_sem]
        · replace h := ifF (c := (decide (0 < ((List.length v6005.todo : Nat) : Int)))) hb2 h
          try simp only [go_sem]
          refine seq_go ?_
          try simp only [go_sem]
          have hj := posF_to rfl rfl (ih0 a0 p1_0 (IntKind.i64.wrap (p1_1 + 1)) _ h)
          refine lp_to hj (.one ⟨_, .done _, [(1000001000, 1000001000)], [], ?_⟩)
          clear hj
          try simp only [go_sem]
      · replace h := ifF (c := (decide (p1_1 < ((List.length a0.actors : Nat) : Int)))) hb1 h
        try simp only [go_sem]
        refine seq_go ?_
        try simp only [go_sem]
        replace h := Option.some.inj h
        obtain rfl := h
        simp only [go_sem]
theorem s_l23Busy_l2_ok (n : Nat) : (∀ (a0 : Deque) (p1_0 : List Int) (p1_1 : Int) (r : (List Int)), s_l23Busy_l2 n a0 p1_0 p1_1 = some r → posF Try.prog Try.f15 [1, 1, 0, 1, 0] (.ow (some 1) (List.map i64D r)) ⟨[(0, .rop [.int .i64 a0.top, .int .i64 a0.bottom, .ro (List.map i64D a0.buffer), .ro (List.map DequeActor.ds a0.actors), .ro (List.map Handed.ds a0.taken), .ro (List.map i64D a0.refused)] 0), (3, .own 1000001000), (4, .int .i64 p1_1)], [(1000001000, some ⟨List.map i64D p1_0, some 1, 0⟩)], []⟩) := (s_l23Busy_l2_all n)

theorem s_l23Busy_ok (a0 : Deque) (r : (List Int)) (h : s_l23Busy a0 = some r) : AC Try.prog 15 [.rop (Deque.avs a0) 0] (.ow (some 1) (List.map i64D r)) := by
  unfold s_l23Busy at h
  refine ac_fn mixed Try.func15 rfl rfl rfl (by kernel_rfl) (by kernel_rfl) ?_
  try simp only [go_sem]
  have hj := posF_to rfl rfl (s_l23Busy_l2_ok fuel a0 [] 0 _ h)
  refine loop_to hj (.one ⟨_, .lit 3 2000000000 2000 0 1 [] _ _ (by (first | rfl | (simp only [go_sem]; rfl))) (by simp only [go_sem]; rfl) (by (first | rfl | (simp only [go_sem]; rfl))) (by (first | rfl | (simp only [go_sem]; rfl))) (by decide) (by decide) (by simp only [go_sem]) (.done _), [(1000001000, 2000000000)], [], ?_⟩)
  clear hj
  simp only [go_sem]
  all_goals try rfl
theorem s_l00Same_l1_all (n : Nat) : (∀ (a0 : List Int) (a1 : List Int) (p0_0 : Int) (r : Bool), s_l00Same_l1 n a0 a1 p0_0 = some r → posF Try.prog Try.f29 [1, 1, 0, 1, 0] (.bool r) ⟨[(0, .ro (List.map i64D a0)), (1, .ro (List.map i64D a1)), (5, .int .i64 p0_0)], [], []⟩) := by
  induction n with
  | zero => exact ((fun _ _ _ _ h => by rw [s_l00Same_l1] at h; cases h))
  | succ n ih =>
    have ih0 := ih
    · intro a0 a1 p0_0 r h
      rw [s_l00Same_l1] at h
      refine posF_of rfl rfl ?_
      try simp only [go_sem]
      refine loop_i ?_
      try simp only [go_sem]
      refine cond_i (fun hb2 => ?_) (fun hb2 => ?_)
      · replace h := ifT (c := (decide (p0_0 < ((List.length a0 : Nat) : Int)))) hb2 h
        try simp only [go_sem]
        refine seq_go ?_
        try simp only [go_sem]
        refine draw_i [] .fin (by kernel_rfl) ?_
        try simp only [go_sem]
        replace h := bindE h
        obtain ⟨v7002, hv7002, h⟩ := h
        refine idx_m hv7002 rfl ?_
        try simp only [go_sem]
        replace h := bindE h
        obtain ⟨v7006, hv7006, h⟩ := h
        refine idx_m hv7006 rfl ?_
        try simp only [go_sem]
        refine seq_go ?_
        try simp only [go_sem]
        refine cond_i (fun hb3 => ?_) (fun hb3 => ?_)
        · replace h := ifT (c := (!decide (v7002 = v7006))) hb3 h
          try simp only [go_sem]
          replace h := Option.some.inj h
          obtain rfl := h
          simp only [go_sem]
        · replace h := ifF (c := (!decide (v7002 = v7006))) hb3 h
          try simp only [go_sem]
          refine seq_go ?_
          try simp only [go_sem]
          have hj := posF_to rfl rfl (ih0 a0 a1 (IntKind.i64.wrap (p0_0 + 1)) _ h)
          refine lp_to hj (.one ⟨_, .done _, [], [], ?_⟩)
          clear hj
          try simp only [go_sem]
      · replace h := ifF (c := (decide (p0_0 < ((List.length a0 : Nat) : Int)))) hb2 h
        try simp only [go_sem]
        refine seq_go ?_
        try simp only [go_sem]
        replace h := Option.some.inj h
        obtain rfl := h
        simp only [go_sem]
theorem s_l00Same_l1_ok (n : Nat) : (∀ (a0 : List Int) (a1 : List Int) (p0_0 : Int) (r : Bool), s_l00Same_l1 n a0 a1 p0_0 = some r → posF Try.prog Try.f29 [1, 1, 0, 1, 0] (.bool r) ⟨[(0, .ro (List.map i64D a0)), (1, .ro (List.map i64D a1)), (5, .int .i64 p0_0)], [], []⟩) := (s_l00Same_l1_all n)

theorem s_l00Same_ok (a0 : List Int) (a1 : List Int) (r : Bool) (h : s_l00Same a0 a1 = some r) : AC Try.prog 29 [.ro (List.map i64D a0), .ro (List.map i64D a1)] (.bool r) := by
  unfold s_l00Same at h
  refine ac_fn mixed Try.func29 rfl rfl rfl (by kernel_rfl) (by kernel_rfl) ?_
  try simp only [go_sem]
  refine cond_i (fun hb1 => ?_) (fun hb1 => ?_)
  · replace h := ifT (c := (!decide (((List.length a0 : Nat) : Int) = ((List.length a1 : Nat) : Int)))) hb1 h
    try simp only [go_sem]
    replace h := Option.some.inj h
    obtain rfl := h
    simp only [go_sem]
  · replace h := ifF (c := (!decide (((List.length a0 : Nat) : Int) = ((List.length a1 : Nat) : Int)))) hb1 h
    try simp only [go_sem]
    refine seq_go ?_
    try simp only [go_sem]
    have hj := posF_to rfl rfl (s_l00Same_l1_ok fuel a0 a1 0 _ h)
    refine loop_to hj (.one ⟨_, .done _, [], [], ?_⟩)
    clear hj
    try simp only [go_sem]
theorem s_l00Own_ok (a0 : List Int) (r : (List Int)) (h : s_l00Own a0 = some r) : AC Try.prog 44 [.ro (List.map i64D a0)] (.ow (some 1) (List.map i64D r)) := by
  unfold s_l00Own at h
  refine ac_fn mixed Try.func44 rfl rfl rfl (by kernel_rfl) (by kernel_rfl) ?_
  try simp only [go_sem]
  replace h := bindE h
  obtain ⟨v2002, hv2002, h⟩ := h
  have hq_ := app_some hv2002
  obtain ⟨hv2002a, hv2002b⟩ := hq_
  refine and_i (flat_rows_of (by intro x; exact ⟨rfl, by simp [go_sem, D.flat]⟩) _) ?_
  try simp only [go_sem]
  refine and_i (by refine ⟨?_, ?_⟩ <;> (try simp only [List.length_map, List.length_append, List.length_cons, List.length_nil] at *) <;> (try unfold maxLen) <;> omega) ?_
  try simp only [go_sem]
  refine row_i (List.map i64D v2002) (by rw [← hv2002b]; simp only [List.map_append, List.map_cons, List.map_nil, List.nil_append, List.append_nil, go_sem, slD]) ?_
  try simp only [go_sem]
  replace h := Option.some.inj h
  obtain rfl := h
  simp only [go_sem]
theorem s_l23Sorted_l42_all (n : Nat) : (∀ (p5_0 : List Int) (p5_1 : Int) (r : (List Int)), s_l23Sorted_l42 n p5_0 p5_1 = some r → posF Try.prog Try.f30 [1, 1, 0, 1, 0] (.ow (some 1) (List.map i64D r)) ⟨[(3, .own 1000005000), (4, .int .i64 p5_1)], [(1000005000, some ⟨List.map i64D p5_0, some 1, 0⟩)], []⟩) ∧
    (∀ (p5_1 : Int) (p8_0 : List Int) (p8_1 : Int) (r : (List Int)), s_l23Sorted_l49 n p5_1 p8_0 p8_1 = some r → posF Try.prog Try.f30 [1, 1, 0, 1, 0, 0, 1, 0, 0, 1, 0] (.ow (some 1) (List.map i64D r)) ⟨[(3, .own 1000008000), (4, .int .i64 p5_1), (5, .int .i64 p8_1)], [(1000008000, some ⟨List.map i64D p8_0, some 1, 0⟩)], []⟩) ∧
    (∀ (p5_1 : Int) (p8_0 : List Int) (p8_1 : Int) (p9_0 : Bool) (r : (List Int)), s_l23Sorted_j50 n p5_1 p8_0 p8_1 p9_0 = some r → posF Try.prog Try.f30 [1, 1, 0, 1, 0, 0, 1, 0, 0, 1, 0, 0, 0, 1] (.ow (some 1) (List.map i64D r)) ⟨[(3, .own 1000009000), (4, .int .i64 p5_1), (5, .int .i64 p8_1), (29, .bool p9_0)], [(1000009000, some ⟨List.map i64D p8_0, some 1, 0⟩)], []⟩) := by
  induction n with
  | zero => exact ⟨(fun _ _ _ h => by rw [s_l23Sorted_l42] at h; cases h), (fun _ _ _ _ h => by rw [s_l23Sorted_l49] at h; cases h), (fun _ _ _ _ _ h => by rw [s_l23Sorted_j50] at h; cases h)⟩
  | succ n ih =>
    obtain ⟨ih0, ih1, ih2⟩ := ih
    refine ⟨?_, ?_, ?_⟩
    · intro p5_0 p5_1 r h
      rw [s_l23Sorted_l42] at h
      refine posF_of rfl rfl ?_
      try simp only [go_sem]
      refine loop_i ?_
      try simp only [go_sem]
      refine cond_i (fun hb1 => ?_) (fun hb1 => ?_)
      · replace h := ifT (c := (decide (p5_1 < ((List.length p5_0 : Nat) : Int)))) hb1 h
        try simp only [go_sem]
        refine seq_go ?_
        try simp only [go_sem]
        have hj := posF_to rfl rfl (ih1 p5_1 p5_0 p5_1 _ h)
        refine loop_to hj (.one ⟨_, .done _, [(1000008000, 1000005000)], [], ?_⟩)
        clear hj
        try simp only [go_sem]
      · replace h := ifF (c := (decide (p5_1 < ((List.length p5_0 : Nat) : Int)))) hb1 h
        try simp only [go_sem]
        refine seq_go ?_
        try simp only [go_sem]
        replace h := Option.some.inj h
        obtain rfl := h
        simp only [go_sem]
    · intro p5_1 p8_0 p8_1 r h
      rw [s_l23Sorted_l49] at h
      refine posF_of rfl rfl ?_
      try simp only [go_sem]
      refine loop_i ?_
      try simp only [go_sem]
      refine draw_i [] .fin (by kernel_rfl) ?_
      try simp only [go_sem]
      refine cond_i (fun hb2 => ?_) (fun hb2 => ?_)
      · replace h := ifT (c := (decide (0 < p8_1))) hb2 h
        try simp only [go_sem]
        replace h := bindE h
        obtain ⟨v7006, hv7006, h⟩ := h
        refine idx_m hv7006 rfl ?_
        try simp only [go_sem]
        refine opt_i (row_m hv7006) ?_
        try simp only [go_sem]
        replace h := bindE h
        obtain ⟨v7010, hv7010, h⟩ := h
        refine idx_m hv7010 rfl ?_
        try simp only [go_sem]
        refine opt_i (row_m hv7010) ?_
        try simp only [go_sem]
        have hj := posF_to rfl rfl (ih2 p5_1 p8_0 p8_1 (decide (v7010 < v7006)) _ h)
        refine seq_to hj (.one ⟨_, .done _, [(1000009000, 1000008000)], [], ?_⟩)
        clear hj
        try simp only [go_sem]
      · replace h := ifF (c := (decide (0 < p8_1))) hb2 h
        try simp only [go_sem]
        have hj := posF_to rfl rfl (ih2 p5_1 p8_0 p8_1 false _ h)
        refine seq_to hj (.one ⟨_, .done _, [(1000009000, 1000008000)], [], ?_⟩)
        clear hj
        try simp only [go_sem]
    · intro p5_1 p8_0 p8_1 p9_0 r h
      rw [s_l23Sorted_j50] at h
      refine posF_of rfl rfl ?_
      try simp only [go_sem]
      refine cond_i (fun hb3 => ?_) (fun hb3 => ?_)
      · replace h := ifT (c := p9_0) hb3 h
        try simp only [go_sem]
        refine seq_go ?_
        try simp only [go_sem]
        replace h := bindE h
        obtain ⟨v9002, hv9002, h⟩ := h
        refine idx_m hv9002 rfl ?_
        try simp only [go_sem]
        refine opt_i (row_m hv9002) ?_
        try simp only [go_sem]
        replace h := bindE h
        obtain ⟨v10005, hv10005, h⟩ := h
        refine idx_m hv10005 rfl ?_
        try simp only [go_sem]
        refine opt_i (row_m hv10005) ?_
        try simp only [go_sem]
        replace h := bindE h
        obtain ⟨v10007, hv10007, h⟩ := h
        refine idx_m hv10007 rfl ?_
        try simp only [go_sem]
        replace h := bindE h
        obtain ⟨v10008_143, hv10008_143, h⟩ := h
        refine opt_i (row_m hv10007) ?_
        try simp only [go_sem]
        refine row_i (List.map i64D v10008_143) (by rw [← set1_some hv10008_143]; simp only [List.map_set, go_sem, slD]) ?_
        try simp only [go_sem]
        replace h := bindE h
        obtain ⟨v11004, hv11004, h⟩ := h
        refine idx_m hv11004 rfl ?_
        try simp only [go_sem]
        replace h := bindE h
        obtain ⟨v11005_144, hv11005_144, h⟩ := h
        refine opt_i (row_m hv11004) ?_
        try simp only [go_sem]
        refine row_i (List.map i64D v11005_144) (by rw [← set1_some hv11005_144]; simp only [List.map_set, go_sem, slD]) ?_
        try simp only [go_sem]
        refine seq_go ?_
        try simp only [go_sem]
        have hj := posF_to rfl rfl (ih1 p5_1 v11005_144 (IntKind.i64.wrap (p8_1 - 1)) _ h)
        refine lp_to hj (.one ⟨_, .done _, [(1000008000, 1000009000)], [], ?_⟩)
        clear hj
        try simp only [go_sem]
      · replace h := ifF (c := p9_0) hb3 h
        try simp only [go_sem]
        refine seq_go ?_
        try simp only [go_sem]
        have hj := posF_to rfl rfl (ih0 p8_0 (IntKind.i64.wrap (p5_1 + 1)) _ h)
        refine lp_to hj (.one ⟨_, .done _, [(1000005000, 1000009000)], [], ?_⟩)
        clear hj
        try simp only [go_sem]
theorem s_l23Sorted_l42_ok (n : Nat) : (∀ (p5_0 : List Int) (p5_1 : Int) (r : (List Int)), s_l23Sorted_l42 n p5_0 p5_1 = some r → posF Try.prog Try.f30 [1, 1, 0, 1, 0] (.ow (some 1) (List.map i64D r)) ⟨[(3, .own 1000005000), (4, .int .i64 p5_1)], [(1000005000, some ⟨List.map i64D p5_0, some 1, 0⟩)], []⟩) := (s_l23Sorted_l42_all n).1
theorem s_l23Sorted_l49_ok (n : Nat) : (∀ (p5_1 : Int) (p8_0 : List Int) (p8_1 : Int) (r : (List Int)), s_l23Sorted_l49 n p5_1 p8_0 p8_1 = some r → posF Try.prog Try.f30 [1, 1, 0, 1, 0, 0, 1, 0, 0, 1, 0] (.ow (some 1) (List.map i64D r)) ⟨[(3, .own 1000008000), (4, .int .i64 p5_1), (5, .int .i64 p8_1)], [(1000008000, some ⟨List.map i64D p8_0, some 1, 0⟩)], []⟩) := (s_l23Sorted_l42_all n).2.1
theorem s_l23Sorted_j50_ok (n : Nat) : (∀ (p5_1 : Int) (p8_0 : List Int) (p8_1 : Int) (p9_0 : Bool) (r : (List Int)), s_l23Sorted_j50 n p5_1 p8_0 p8_1 p9_0 = some r → posF Try.prog Try.f30 [1, 1, 0, 1, 0, 0, 1, 0, 0, 1, 0, 0, 0, 1] (.ow (some 1) (List.map i64D r)) ⟨[(3, .own 1000009000), (4, .int .i64 p5_1), (5, .int .i64 p8_1), (29, .bool p9_0)], [(1000009000, some ⟨List.map i64D p8_0, some 1, 0⟩)], []⟩) := (s_l23Sorted_l42_all n).2.2

theorem s_l23Sorted_ok (a0 : List Int) (r : (List Int)) (h : s_l23Sorted a0 = some r) : AC Try.prog 30 [.ro (List.map i64D a0)] (.ow (some 1) (List.map i64D r)) := by
  unfold s_l23Sorted at h
  refine ac_fn mixed Try.func30 rfl rfl rfl (by kernel_rfl) (by kernel_rfl) ?_
  try simp only [go_sem]
  replace h := bindE h
  obtain ⟨v2001, hv2001, h⟩ := h
  refine call_i (s_l00Own_ok _ _ hv2001) ?_
  try simp only [go_sem]
  have hj := posF_to rfl rfl (s_l23Sorted_l42_ok fuel v2001 1 _ h)
  refine loop_to hj (.one ⟨_, .done _, [(1000005000, 32016)], [], ?_⟩)
  clear hj
  try simp only [go_sem]
theorem s_l23Once_l2_all (n : Nat) : (∀ (a0 : Deque) (a1 : List Int) (p1_0 : List Int) (p1_1 : Int) (r : Bool), s_l23Once_l2 n a0 a1 p1_0 p1_1 = some r → posF Try.prog Try.f16 [1, 1, 0, 1, 0] (.bool r) ⟨[(0, .rop [.int .i64 a0.top, .int .i64 a0.bottom, .ro (List.map i64D a0.buffer), .ro (List.map DequeActor.ds a0.actors), .ro (List.map Handed.ds a0.taken), .ro (List.map i64D a0.refused)] 0), (1, .ro (List.map i64D a1)), (5, .own 1000001000), (6, .int .i64 p1_1)], [(1000001000, some ⟨List.map i64D p1_0, some 1, 0⟩)], []⟩) := by
  induction n with
  | zero => exact ((fun _ _ _ _ _ h => by rw [s_l23Once_l2] at h; cases h))
  | succ n ih =>
    have ih0 := ih
    · intro a0 a1 p1_0 p1_1 r h
      rw [s_l23Once_l2] at h
      refine posF_of rfl rfl ?_
      try simp only [go_sem]
      refine loop_i ?_
      try simp only [go_sem]
      refine cond_i (fun hb1 => ?_) (fun hb1 => ?_)
      · replace h := ifT (c := (decide (p1_1 < ((List.length a0.taken : Nat) : Int)))) hb1 h
        try simp only [go_sem]
        refine seq_go ?_
        try simp only [go_sem]
        replace h := bindE h
        obtain ⟨v6006, hv6006, h⟩ := h
        refine idx_m hv6006 (Handed.ds_len _) ?_
        try simp only [go_sem]
        replace h := bindE h
        obtain ⟨v6010, hv6010, h⟩ := h
        have hq_ := app_some hv6010
        obtain ⟨hv6010a, hv6010b⟩ := hq_
        refine and_i (by refine ⟨?_, ?_⟩ <;> (try simp only [List.length_map, List.length_append, List.length_cons, List.length_nil] at *) <;> (try unfold maxLen) <;> omega) ?_
        try simp only [go_sem]
        refine row_i (List.map i64D v6010) (by rw [← hv6010b]; simp only [List.map_append, List.map_cons, List.map_nil, List.nil_append, List.append_nil, go_sem, slD]) ?_
        try simp only [go_sem]
        refine seq_go ?_
        try simp only [go_sem]
        have hj := posF_to rfl rfl (ih0 a0 a1 v6010 (IntKind.i64.wrap (p1_1 + 1)) _ h)
        refine lp_to hj (.one ⟨_, .done _, [(1000001000, 96160)], [], ?_⟩)
        clear hj
        try simp only [go_sem]
      · replace h := ifF (c := (decide (p1_1 < ((List.length a0.taken : Nat) : Int)))) hb1 h
        try simp only [go_sem]
        refine seq_go ?_
        try simp only [go_sem]
        replace h := bindE h
        obtain ⟨v7001, hv7001, h⟩ := h
        refine call_i (s_l23Sorted_ok _ _ hv7001) ?_
        try simp only [go_sem]
        replace h := bindE h
        obtain ⟨v7003, hv7003, h⟩ := h
        refine call_i (s_l23Sorted_ok _ _ hv7003) ?_
        try simp only [go_sem]
        replace h := bindE h
        obtain ⟨v7004, hv7004, h⟩ := h
        refine call_i (s_l00Same_ok _ _ _ hv7004) ?_
        try simp only [go_sem]
        replace h := Option.some.inj h
        obtain rfl := h
        simp only [go_sem]
theorem s_l23Once_l2_ok (n : Nat) : (∀ (a0 : Deque) (a1 : List Int) (p1_0 : List Int) (p1_1 : Int) (r : Bool), s_l23Once_l2 n a0 a1 p1_0 p1_1 = some r → posF Try.prog Try.f16 [1, 1, 0, 1, 0] (.bool r) ⟨[(0, .rop [.int .i64 a0.top, .int .i64 a0.bottom, .ro (List.map i64D a0.buffer), .ro (List.map DequeActor.ds a0.actors), .ro (List.map Handed.ds a0.taken), .ro (List.map i64D a0.refused)] 0), (1, .ro (List.map i64D a1)), (5, .own 1000001000), (6, .int .i64 p1_1)], [(1000001000, some ⟨List.map i64D p1_0, some 1, 0⟩)], []⟩) := (s_l23Once_l2_all n)

theorem s_l23Once_ok (a0 : Deque) (a1 : List Int) (r : Bool) (h : s_l23Once a0 a1 = some r) : AC Try.prog 16 [.rop (Deque.avs a0) 0, .ro (List.map i64D a1)] (.bool r) := by
  unfold s_l23Once at h
  refine ac_fn mixed Try.func16 rfl rfl rfl (by kernel_rfl) (by kernel_rfl) ?_
  try simp only [go_sem]
  refine draw_i [false, false, false, false, false, false, true, true] (Tr.sq [6, 7] .fin) (by kernel_rfl) ?_
  try simp only [go_sem]
  replace h := bindE h
  obtain ⟨v2001, hv2001, h⟩ := h
  refine call_i (s_l23Left_ok _ _ hv2001) ?_
  try simp only [go_sem]
  replace h := bindE h
  obtain ⟨v2006, hv2006, h⟩ := h
  have hq_ := app_some hv2006
  obtain ⟨hv2006a, hv2006b⟩ := hq_
  refine and_i (flat_rows_of (by intro x; exact ⟨rfl, by simp [go_sem, D.flat]⟩) _) ?_
  try simp only [go_sem]
  refine and_i (by refine ⟨?_, ?_⟩ <;> (try simp only [List.length_map, List.length_append, List.length_cons, List.length_nil] at *) <;> (try unfold maxLen) <;> omega) ?_
  try simp only [go_sem]
  refine row_i (List.map i64D v2006) (by rw [← hv2006b]; simp only [List.map_append, List.map_cons, List.map_nil, List.nil_append, List.append_nil, go_sem, slD]) ?_
  try simp only [go_sem]
  refine seq_go ?_
  try simp only [go_sem]
  have hj := posF_to rfl rfl (s_l23Once_l2_ok fuel a0 a1 v2006 0 _ h)
  refine loop_to hj (.one ⟨_, .done _, [(1000001000, 32096)], [], ?_⟩)
  clear hj
  try simp only [go_sem]
theorem s_HandedOnce_ok (a0 : Deque) (a1 : List Int) (r : Bool) (h : s_HandedOnce a0 a1 = some r) : AC Try.prog 5 [.agg (Deque.avs a0), .ro (List.map i64D a1)] (.bool r) := by
  unfold s_HandedOnce at h
  refine ac_fn mixed Try.func5 rfl rfl rfl (by kernel_rfl) (by kernel_rfl) ?_
  try simp only [go_sem]
  replace h := bindE h
  obtain ⟨v2000, hv2000, h⟩ := h
  refine call_i (s_l23Ok_ok _ _ hv2000) ?_
  try simp only [go_sem]
  refine cond_i (fun hb1 => ?_) (fun hb1 => ?_)
  · replace h := ifT (c := v2000) hb1 h
    try simp only [go_sem]
    replace h := bindE h
    obtain ⟨v2002, hv2002, h⟩ := h
    refine call_i (s_l23Busy_ok _ _ hv2002) ?_
    try simp only [go_sem]
    refine cond_i (fun hb2 => ?_) (fun hb2 => ?_)
    · replace h := ifT (c := (decide (((List.length v2002 : Nat) : Int) = 0))) hb2 h
      try simp only [go_sem]
      refine cond_i (fun hb3 => ?_) (fun hb3 => ?_)
      · replace h := ifT (c := (decide (((List.length a1 : Nat) : Int) ≤ 3000))) hb3 h
        try simp only [go_sem]
        replace h := bindE h
        obtain ⟨v2013, hv2013, h⟩ := h
        refine call_i (s_l23Once_ok _ _ _ hv2013) ?_
        try simp only [go_sem]
        refine seq_go ?_
        try simp only [go_sem]
        replace h := Option.some.inj h
        obtain rfl := h
        simp only [go_sem]
      · replace h := ifF (c := (decide (((List.length a1 : Nat) : Int) ≤ 3000))) hb3 h
        try simp only [go_sem]
        refine seq_go ?_
        try simp only [go_sem]
        replace h := Option.some.inj h
        obtain rfl := h
        simp only [go_sem]
    · replace h := ifF (c := (decide (((List.length v2002 : Nat) : Int) = 0))) hb2 h
      try simp only [go_sem]
      refine seq_go ?_
      try simp only [go_sem]
      replace h := Option.some.inj h
      obtain rfl := h
      simp only [go_sem]
  · replace h := ifF (c := v2000) hb1 h
    try simp only [go_sem]
    refine seq_go ?_
    try simp only [go_sem]
    replace h := Option.some.inj h
    obtain rfl := h
    simp only [go_sem]
theorem g_IndexFunc_simpl_DequeActor_l1_all (n : Nat) : (∀ (a0 : List DequeActor) (p0_0 : Int) (f1 : (DequeActor → Option Bool)) (g1 : FuncId) (c1 : List AV) (s1 : Still c1) (h1 : ∀ (y0 : DequeActor) (q : Bool), f1 y0 = some q → AC Try.prog g1 (.agg (DequeActor.avs y0) :: c1) (.bool q)) (r : Int), g_IndexFunc_simpl_DequeActor_l1 n a0 p0_0 f1 = some r → posF Try.prog Try.f65 [1, 0, 1, 0] (.int .i64 r) ⟨[(0, .ro (List.map DequeActor.ds a0)), (1, .fn g1 c1), (7, .int .i64 ((List.length a0 : Nat) : Int)), (8, .int .i64 p0_0)], [], []⟩) := by
  induction n with
  | zero => exact ((fun _ _ _ _ _ _ _ _ h => by rw [g_IndexFunc_simpl_DequeActor_l1] at h; cases h))
  | succ n ih =>
    have ih0 := ih
    · intro a0 p0_0 f1 g1 c1 s1 h1 r h
      rw [g_IndexFunc_simpl_DequeActor_l1] at h
      refine posF_of rfl rfl ?_
      try simp only [go_sem, s1.k, s1.r, s1.c, s1.p]
      refine loop_i ?_
      try simp only [go_sem, s1.k, s1.r, s1.c, s1.p]
      refine cond_i (fun hb1 => ?_) (fun hb1 => ?_)
      · replace h := ifT (c := (decide (p0_0 < ((List.length a0 : Nat) : Int)))) hb1 h
        try simp only [go_sem, s1.k, s1.r, s1.c, s1.p]
        refine seq_go ?_
        try simp only [go_sem, s1.k, s1.r, s1.c, s1.p]
        replace h := bindE h
        obtain ⟨v5003, hv5003, h⟩ := h
        refine idx_m hv5003 (DequeActor.ds_len _) ?_
        try simp only [go_sem, s1.k, s1.r, s1.c, s1.p]
        replace h := bindE h
        obtain ⟨v5005, hv5005, h⟩ := h
        refine call_i (h1 _ _ hv5005) ?_
        try simp only [go_sem, s1.k, s1.r, s1.c, s1.p]
        refine cond_i (fun hb2 => ?_) (fun hb2 => ?_)
        · replace h := ifT (c := v5005) hb2 h
          try simp only [go_sem, s1.k, s1.r, s1.c, s1.p]
          replace h := Option.some.inj h
          obtain rfl := h
          simp only [go_sem, s1.k, s1.r, s1.c, s1.p]
        · replace h := ifF (c := v5005) hb2 h
          try simp only [go_sem, s1.k, s1.r, s1.c, s1.p]
          refine seq_go ?_
          try simp only [go_sem, s1.k, s1.r, s1.c, s1.p]
          have hj := posF_to rfl rfl (ih0 a0 (IntKind.i64.wrap (p0_0 + 1)) f1 g1 c1 s1 h1 _ h)
          refine lp_to hj (.one ⟨_, .done _, [], [], ?_⟩)
          clear hj
          try simp only [go_sem, s1.k, s1.r, s1.c, s1.p]
      · replace h := ifF (c := (decide (p0_0 < ((List.length a0 : Nat) : Int)))) hb1 h
        try simp only [go_sem, s1.k, s1.r, s1.c, s1.p]
        refine seq_go ?_
        try simp only [go_sem, s1.k, s1.r, s1.c, s1.p]
        replace h := Option.some.inj h
        obtain rfl := h
        simp only [go_sem, s1.k, s1.r, s1.c, s1.p]
theorem g_IndexFunc_simpl_DequeActor_l1_ok (n : Nat) : (∀ (a0 : List DequeActor) (p0_0 : Int) (f1 : (DequeActor → Option Bool)) (g1 : FuncId) (c1 : List AV) (s1 : Still c1) (h1 : ∀ (y0 : DequeActor) (q : Bool), f1 y0 = some q → AC Try.prog g1 (.agg (DequeActor.avs y0) :: c1) (.bool q)) (r : Int), g_IndexFunc_simpl_DequeActor_l1 n a0 p0_0 f1 = some r → posF Try.prog Try.f65 [1, 0, 1, 0] (.int .i64 r) ⟨[(0, .ro (List.map DequeActor.ds a0)), (1, .fn g1 c1), (7, .int .i64 ((List.length a0 : Nat) : Int)), (8, .int .i64 p0_0)], [], []⟩) := (g_IndexFunc_simpl_DequeActor_l1_all n)

theorem g_IndexFunc_simpl_DequeActor_ok (a0 : List DequeActor) (f1 : (DequeActor → Option Bool)) (g1 : FuncId) (c1 : List AV) (s1 : Still c1) (h1 : ∀ (y0 : DequeActor) (q : Bool), f1 y0 = some q → AC Try.prog g1 (.agg (DequeActor.avs y0) :: c1) (.bool q)) (r : Int) (h : g_IndexFunc_simpl_DequeActor a0 f1 = some r) : AC Try.prog 65 [.ro (List.map DequeActor.ds a0), .fn g1 c1] (.int .i64 r) := by
  unfold g_IndexFunc_simpl_DequeActor at h
  refine ac_fn mixed Try.func65 rfl rfl rfl (by kernel_rfl) (by kernel_rfl) ?_
  try simp only [go_sem, s1.k, s1.r, s1.c, s1.p]
  have hj := posF_to rfl rfl (g_IndexFunc_simpl_DequeActor_l1_ok fuel a0 0 f1 g1 c1 s1 h1 _ h)
  refine loop_to hj (.one ⟨_, .done _, [], [], ?_⟩)
  clear hj
  try simp only [go_sem, s1.k, s1.r, s1.c, s1.p]
theorem g_ContainsFunc_simpl_DequeActor_ok (a0 : List DequeActor) (f1 : (DequeActor → Option Bool)) (g1 : FuncId) (c1 : List AV) (s1 : Still c1) (h1 : ∀ (y0 : DequeActor) (q : Bool), f1 y0 = some q → AC Try.prog g1 (.agg (DequeActor.avs y0) :: c1) (.bool q)) (r : Bool) (h : g_ContainsFunc_simpl_DequeActor a0 f1 = some r) : AC Try.prog 54 [.ro (List.map DequeActor.ds a0), .fn g1 c1] (.bool r) := by
  unfold g_ContainsFunc_simpl_DequeActor at h
  refine ac_fn mixed Try.func54 rfl rfl rfl (by kernel_rfl) (by kernel_rfl) ?_
  try simp only [go_sem, s1.k, s1.r, s1.c, s1.p]
  replace h := bindE h
  obtain ⟨v2002, hv2002, h⟩ := h
  refine call_i (g_IndexFunc_simpl_DequeActor_ok _ _ g1 c1 s1 h1 _ hv2002) ?_
  try simp only [go_sem, s1.k, s1.r, s1.c, s1.p]
  replace h := Option.some.inj h
  obtain rfl := h
  simp only [go_sem, s1.k, s1.r, s1.c, s1.p]
theorem i_Deque_isDone_1_ok (a0 : DequeActor) (r : Bool) (h : i_Deque_isDone_1 a0 = some r) : AC Try.prog 55 [.agg (DequeActor.avs a0)] (.bool r) := by
  unfold i_Deque_isDone_1 at h
  refine ac_fn mixed Try.func55 rfl rfl rfl (by kernel_rfl) (by kernel_rfl) ?_
  try simp only [go_sem]
  replace h := Option.some.inj h
  obtain rfl := h
  simp only [go_sem]
theorem i_Deque_isDone_ok (a0 : Deque) (r : Bool) (h : i_Deque_isDone a0 = some r) : AC Try.prog 34 [.rop (Deque.avs a0) 0] (.bool r) := by
  unfold i_Deque_isDone at h
  refine ac_fn mixed Try.func34 rfl rfl rfl (by kernel_rfl) (by kernel_rfl) ?_
  try simp only [go_sem]
  replace h := bindE h
  obtain ⟨v2004, hv2004, h⟩ := h
  refine call_i (g_ContainsFunc_simpl_DequeActor_ok _ _ 55 [] (Still.of rfl) (fun y0 q hq => i_Deque_isDone_1_ok y0  q hq) _ hv2004) ?_
  try simp only [go_sem]
  replace h := Option.some.inj h
  obtain rfl := h
  simp only [go_sem]
theorem i_IsDequeDone_ok (a0 : Deque) (r : Bool) (h : i_IsDequeDone a0 = some r) : AC Try.prog 19 [.agg (Deque.avs a0)] (.bool r) := by
  unfold i_IsDequeDone at h
  refine ac_fn mixed Try.func19 rfl rfl rfl (by kernel_rfl) (by kernel_rfl) ?_
  try simp only [go_sem]
  replace h := bindE h
  obtain ⟨v2001, hv2001, h⟩ := h
  refine call_i (i_ValidDeque_ok _ _ hv2001) ?_
  try simp only [go_sem]
  refine cond_i (fun hb1 => ?_) (fun hb1 => ?_)
  · replace h := ifT (c := v2001) hb1 h
    try simp only [go_sem]
    replace h := bindE h
    obtain ⟨v2003, hv2003, h⟩ := h
    refine call_i (i_Deque_isDone_ok _ _ hv2003) ?_
    try simp only [go_sem]
    refine seq_go ?_
    try simp only [go_sem]
    replace h := Option.some.inj h
    obtain rfl := h
    simp only [go_sem]
  · replace h := ifF (c := v2001) hb1 h
    try simp only [go_sem]
    refine seq_go ?_
    try simp only [go_sem]
    replace h := Option.some.inj h
    obtain rfl := h
    simp only [go_sem]
theorem g_Concat_sint64_l3_all (n : Nat) : (∀ (a0 : List (List Int)) (p2_0 : List Int) (p2_1 : Int) (r : (List Int)), g_Concat_sint64_l3 n a0 p2_0 p2_1 = some r → posF Try.prog Try.f35 [1, 1, 1, 1, 0, 1, 0] (.ow (some 1) (List.map i64D r)) ⟨[(6, .own 1000002000), (25, .ro (List.map (slD i64D) a0)), (26, .int .i64 ((List.length a0 : Nat) : Int)), (27, .int .i64 p2_1)], [(1000002000, some ⟨List.map i64D p2_0, some 1, 0⟩)], []⟩) := by
  induction n with
  | zero => exact ((fun _ _ _ _ h => by rw [g_Concat_sint64_l3] at h; cases h))
  | succ n ih =>
    have ih0 := ih
    · intro a0 p2_0 p2_1 r h
      rw [g_Concat_sint64_l3] at h
      refine posF_of rfl rfl ?_
      try simp only [go_sem]
      refine loop_i ?_
      try simp only [go_sem]
      refine cond_i (fun hb3 => ?_) (fun hb3 => ?_)
      · replace h := ifT (c := (decide (p2_1 < ((List.length a0 : Nat) : Int)))) hb3 h
        try simp only [go_sem]
        refine seq_go ?_
        try simp only [go_sem]
        replace h := bindE h
        obtain ⟨v13000, hv13000, h⟩ := h
        refine idx_m hv13000 rfl ?_
        try simp only [go_sem]
        replace h := bindE h
        obtain ⟨v14002, hv14002, h⟩ := h
        have hq_ := app_some hv14002
        obtain ⟨hv14002a, hv14002b⟩ := hq_
        refine and_i (flat_rows_of (by intro x; exact ⟨rfl, by simp [go_sem, D.flat]⟩) _) ?_
        try simp only [go_sem]
        refine and_i (by refine ⟨?_, ?_⟩ <;> (try simp only [List.length_map, List.length_append, List.length_cons, List.length_nil] at *) <;> (try unfold maxLen) <;> omega) ?_
        try simp only [go_sem]
        refine row_i (List.map i64D v14002) (by rw [← hv14002b]; simp only [List.map_append, List.map_cons, List.map_nil, List.nil_append, List.append_nil, go_sem, slD]) ?_
        try simp only [go_sem]
        refine seq_go ?_
        try simp only [go_sem]
        have hj := posF_to rfl rfl (ih0 a0 v14002 (IntKind.i64.wrap (p2_1 + 1)) _ h)
        refine lp_to hj (.one ⟨_, .done _, [(1000002000, 224032)], [], ?_⟩)
        clear hj
        try simp only [go_sem]
      · replace h := ifF (c := (decide (p2_1 < ((List.length a0 : Nat) : Int)))) hb3 h
        try simp only [go_sem]
        refine seq_go ?_
        try simp only [go_sem]
        replace h := Option.some.inj h
        obtain rfl := h
        simp only [go_sem]
theorem g_Concat_sint64_l3_ok (n : Nat) : (∀ (a0 : List (List Int)) (p2_0 : List Int) (p2_1 : Int) (r : (List Int)), g_Concat_sint64_l3 n a0 p2_0 p2_1 = some r → posF Try.prog Try.f35 [1, 1, 1, 1, 0, 1, 0] (.ow (some 1) (List.map i64D r)) ⟨[(6, .own 1000002000), (25, .ro (List.map (slD i64D) a0)), (26, .int .i64 ((List.length a0 : Nat) : Int)), (27, .int .i64 p2_1)], [(1000002000, some ⟨List.map i64D p2_0, some 1, 0⟩)], []⟩) := (g_Concat_sint64_l3_all n)

theorem g_Concat_sint64_l1_all (n : Nat) : (∀ (a0 : List (List Int)) (p0_0 : Int) (p0_1 : Int) (r : (List Int)), g_Concat_sint64_l1 n a0 p0_0 p0_1 = some r → posF Try.prog Try.f35 [1, 1, 0, 1, 0] (.ow (some 1) (List.map i64D r)) ⟨[(0, .ro (List.map (slD i64D) a0)), (3, .int .i64 p0_0), (9, .ro (List.map (slD i64D) a0)), (10, .int .i64 ((List.length a0 : Nat) : Int)), (11, .int .i64 p0_1)], [], []⟩) := by
  induction n with
  | zero => exact ((fun _ _ _ _ h => by rw [g_Concat_sint64_l1] at h; cases h))
  | succ n ih =>
    have ih0 := ih
    · intro a0 p0_0 p0_1 r h
      rw [g_Concat_sint64_l1] at h
      refine posF_of rfl rfl ?_
      try simp only [go_sem]
      refine loop_i ?_
      try simp only [go_sem]
      refine cond_i (fun hb1 => ?_) (fun hb1 => ?_)
      · replace h := ifT (c := (decide (p0_1 < ((List.length a0 : Nat) : Int)))) hb1 h
        try simp only [go_sem]
        refine seq_go ?_
        try simp only [go_sem]
        replace h := bindE h
        obtain ⟨v5000, hv5000, h⟩ := h
        refine idx_m hv5000 rfl ?_
        try simp only [go_sem]
        refine cond_i (fun hb2 => ?_) (fun hb2 => ?_)
        · replace h := ifT (c := (decide ((IntKind.i64.wrap (p0_0 + ((List.length v5000 : Nat) : Int))) < 0))) hb2 h
          try simp only [go_sem]
          cases h
        · replace h := ifF (c := (decide ((IntKind.i64.wrap (p0_0 + ((List.length v5000 : Nat) : Int))) < 0))) hb2 h
          try simp only [go_sem]
          refine seq_go ?_
          try simp only [go_sem]
          have hj := posF_to rfl rfl (ih0 a0 (IntKind.i64.wrap (p0_0 + ((List.length v5000 : Nat) : Int))) (IntKind.i64.wrap (p0_1 + 1)) _ h)
          refine lp_to hj (.one ⟨_, .done _, [], [], ?_⟩)
          clear hj
          try simp only [go_sem]
      · replace h := ifF (c := (decide (p0_1 < ((List.length a0 : Nat) : Int)))) hb1 h
        try simp only [go_sem]
        refine seq_go ?_
        try simp only [go_sem]
        replace h := bindE h
        obtain ⟨v10001, hv10001, h⟩ := h
        refine call_g ⟨[(3000160016, .nils, some 1)], [(1001, 3000160016)], [], [(1501, 160016)], [], true⟩ (by kernel_rfl) (g_Grow_sint64_ok _ _ _ hv10001) (by kernel_rfl) ?_
        try simp only [go_sem]
        have hj := posF_to rfl rfl (g_Concat_sint64_l3_ok fuel a0 v10001 0 _ h)
        refine loop_to hj (.one ⟨_, .done _, [(1000002000, 160016)], [], ?_⟩)
        clear hj
        try simp only [go_sem]
theorem g_Concat_sint64_l1_ok (n : Nat) : (∀ (a0 : List (List Int)) (p0_0 : Int) (p0_1 : Int) (r : (List Int)), g_Concat_sint64_l1 n a0 p0_0 p0_1 = some r → posF Try.prog Try.f35 [1, 1, 0, 1, 0] (.ow (some 1) (List.map i64D r)) ⟨[(0, .ro (List.map (slD i64D) a0)), (3, .int .i64 p0_0), (9, .ro (List.map (slD i64D) a0)), (10, .int .i64 ((List.length a0 : Nat) : Int)), (11, .int .i64 p0_1)], [], []⟩) := (g_Concat_sint64_l1_all n)

theorem g_Concat_sint64_ok (a0 : List (List Int)) (r : (List Int)) (h : g_Concat_sint64 a0 = some r) : AC Try.prog 35 [.ro (List.map (slD i64D) a0)] (.ow (some 1) (List.map i64D r)) := by
  unfold g_Concat_sint64 at h
  refine ac_fn mixed Try.func35 rfl rfl rfl (by kernel_rfl) (by kernel_rfl) ?_
  try simp only [go_sem]
  have hj := posF_to rfl rfl (g_Concat_sint64_l1_ok fuel a0 0 0 _ h)
  refine loop_to hj (.one ⟨_, .done _, [], [], ?_⟩)
  clear hj
  try simp only [go_sem]
theorem g_Equal_sint64_l1_all (n : Nat) : (∀ (a0 : List Int) (a1 : List Int) (p0_0 : Int) (r : Bool), g_Equal_sint64_l1 n a0 a1 p0_0 = some r → posF Try.prog Try.f38 [1, 1, 0, 1, 0] (.bool r) ⟨[(0, .ro (List.map i64D a0)), (1, .ro (List.map i64D a1)), (12, .int .i64 ((List.length a0 : Nat) : Int)), (13, .int .i64 p0_0)], [], []⟩) := by
  induction n with
  | zero => exact ((fun _ _ _ _ h => by rw [g_Equal_sint64_l1] at h; cases h))
  | succ n ih =>
    have ih0 := ih
    · intro a0 a1 p0_0 r h
      rw [g_Equal_sint64_l1] at h
      refine posF_of rfl rfl ?_
      try simp only [go_sem]
      refine loop_i ?_
      try simp only [go_sem]
      refine cond_i (fun hb2 => ?_) (fun hb2 => ?_)
      · replace h := ifT (c := (decide (p0_0 < ((List.length a0 : Nat) : Int)))) hb2 h
        try simp only [go_sem]
        refine seq_go ?_
        try simp only [go_sem]
        refine draw_i [] .fin (by kernel_rfl) ?_
        try simp only [go_sem]
        replace h := bindE h
        obtain ⟨v7002, hv7002, h⟩ := h
        refine idx_m hv7002 rfl ?_
        try simp only [go_sem]
        replace h := bindE h
        obtain ⟨v7006, hv7006, h⟩ := h
        refine idx_m hv7006 rfl ?_
        try simp only [go_sem]
        refine seq_go ?_
        try simp only [go_sem]
        refine cond_i (fun hb3 => ?_) (fun hb3 => ?_)
        · replace h := ifT (c := (!decide (v7002 = v7006))) hb3 h
          try simp only [go_sem]
          replace h := Option.some.inj h
          obtain rfl := h
          simp only [go_sem]
        · replace h := ifF (c := (!decide (v7002 = v7006))) hb3 h
          try simp only [go_sem]
          refine seq_go ?_
          try simp only [go_sem]
          have hj := posF_to rfl rfl (ih0 a0 a1 (IntKind.i64.wrap (p0_0 + 1)) _ h)
          refine lp_to hj (.one ⟨_, .done _, [], [], ?_⟩)
          clear hj
          try simp only [go_sem]
      · replace h := ifF (c := (decide (p0_0 < ((List.length a0 : Nat) : Int)))) hb2 h
        try simp only [go_sem]
        refine seq_go ?_
        try simp only [go_sem]
        replace h := Option.some.inj h
        obtain rfl := h
        simp only [go_sem]
theorem g_Equal_sint64_l1_ok (n : Nat) : (∀ (a0 : List Int) (a1 : List Int) (p0_0 : Int) (r : Bool), g_Equal_sint64_l1 n a0 a1 p0_0 = some r → posF Try.prog Try.f38 [1, 1, 0, 1, 0] (.bool r) ⟨[(0, .ro (List.map i64D a0)), (1, .ro (List.map i64D a1)), (12, .int .i64 ((List.length a0 : Nat) : Int)), (13, .int .i64 p0_0)], [], []⟩) := (g_Equal_sint64_l1_all n)

theorem g_Equal_sint64_ok (a0 : List Int) (a1 : List Int) (r : Bool) (h : g_Equal_sint64 a0 a1 = some r) : AC Try.prog 38 [.ro (List.map i64D a0), .ro (List.map i64D a1)] (.bool r) := by
  unfold g_Equal_sint64 at h
  refine ac_fn mixed Try.func38 rfl rfl rfl (by kernel_rfl) (by kernel_rfl) ?_
  try simp only [go_sem]
  refine cond_i (fun hb1 => ?_) (fun hb1 => ?_)
  · replace h := ifT (c := (!decide (((List.length a0 : Nat) : Int) = ((List.length a1 : Nat) : Int)))) hb1 h
    try simp only [go_sem]
    replace h := Option.some.inj h
    obtain rfl := h
    simp only [go_sem]
  · replace h := ifF (c := (!decide (((List.length a0 : Nat) : Int) = ((List.length a1 : Nat) : Int)))) hb1 h
    try simp only [go_sem]
    refine seq_go ?_
    try simp only [go_sem]
    have hj := posF_to rfl rfl (g_Equal_sint64_l1_ok fuel a0 a1 0 _ h)
    refine loop_to hj (.one ⟨_, .done _, [], [], ?_⟩)
    clear hj
    try simp only [go_sem]
theorem i_Deque_handedOnce_l2_all (n : Nat) : (∀ (a0 : Deque) (a1 : List Int) (p1_0 : List Int) (p1_1 : Int) (r : Bool), i_Deque_handedOnce_l2 n a0 a1 p1_0 p1_1 = some r → posF Try.prog Try.f20 [1, 1, 0, 1, 0] (.bool r) ⟨[(1, .ro (List.map i64D a1)), (5, .own 1000001000), (19, .ro (List.map Handed.ds a0.taken)), (20, .int .i64 ((List.length a0.taken : Nat) : Int)), (21, .int .i64 p1_1)], [(1000001000, some ⟨List.map i64D p1_0, some 1, 0⟩)], []⟩) := by
  induction n with
  | zero => exact ((fun _ _ _ _ _ h => by rw [i_Deque_handedOnce_l2] at h; cases h))
  | succ n ih =>
    have ih0 := ih
    · intro a0 a1 p1_0 p1_1 r h
      rw [i_Deque_handedOnce_l2] at h
      refine posF_of rfl rfl ?_
      try simp only [go_sem]
      refine loop_i ?_
      try simp only [go_sem]
      refine cond_i (fun hb1 => ?_) (fun hb1 => ?_)
      · replace h := ifT (c := (decide (p1_1 < ((List.length a0.taken : Nat) : Int)))) hb1 h
        try simp only [go_sem]
        refine seq_go ?_
        try simp only [go_sem]
        replace h := bindE h
        obtain ⟨v5000, hv5000, h⟩ := h
        refine idx_m hv5000 (Handed.ds_len _) ?_
        try simp only [go_sem]
        replace h := bindE h
        obtain ⟨v6004, hv6004, h⟩ := h
        have hq_ := app_some hv6004
        obtain ⟨hv6004a, hv6004b⟩ := hq_
        refine and_i (by refine ⟨?_, ?_⟩ <;> (try simp only [List.length_map, List.length_append, List.length_cons, List.length_nil] at *) <;> (try unfold maxLen) <;> omega) ?_
        try simp only [go_sem]
        refine row_i (List.map i64D v6004) (by rw [← hv6004b]; simp only [List.map_append, List.map_cons, List.map_nil, List.nil_append, List.append_nil, go_sem, slD]) ?_
        try simp only [go_sem]
        refine seq_go ?_
        try simp only [go_sem]
        have hj := posF_to rfl rfl (ih0 a0 a1 v6004 (IntKind.i64.wrap (p1_1 + 1)) _ h)
        refine lp_to hj (.one ⟨_, .done _, [(1000001000, 96064)], [], ?_⟩)
        clear hj
        try simp only [go_sem]
      · replace h := ifF (c := (decide (p1_1 < ((List.length a0.taken : Nat) : Int)))) hb1 h
        try simp only [go_sem]
        refine seq_go ?_
        try simp only [go_sem]
        replace h := bindE h
        obtain ⟨v8001, hv8001, h⟩ := h
        refine call_g ⟨[], [(1, 1000001000)], [], [], [], true⟩ (by kernel_rfl) (g_Sort_sint64_ok _ (some 1) _ hv8001) (by kernel_rfl) ?_
        try simp only [go_sem]
        refine call_g ⟨[], [], [], [], [(1601, 144032)], true⟩ (by kernel_rfl) (g_Values_sint64_ok a1) (by kernel_rfl) ?_
        try simp only [go_sem]
        replace h := bindE h
        obtain ⟨v9003, hv9003, h⟩ := h
        refine call_i (g_Sorted_int64_ok _ _ hv9003) ?_
        try simp only [go_sem]
        replace h := bindE h
        obtain ⟨v9004, hv9004, h⟩ := h
        refine call_i (g_Equal_sint64_ok _ _ _ hv9004) ?_
        try simp only [go_sem]
        replace h := Option.some.inj h
        obtain rfl := h
        simp only [go_sem]
theorem i_Deque_handedOnce_l2_ok (n : Nat) : (∀ (a0 : Deque) (a1 : List Int) (p1_0 : List Int) (p1_1 : Int) (r : Bool), i_Deque_handedOnce_l2 n a0 a1 p1_0 p1_1 = some r → posF Try.prog Try.f20 [1, 1, 0, 1, 0] (.bool r) ⟨[(1, .ro (List.map i64D a1)), (5, .own 1000001000), (19, .ro (List.map Handed.ds a0.taken)), (20, .int .i64 ((List.length a0.taken : Nat) : Int)), (21, .int .i64 p1_1)], [(1000001000, some ⟨List.map i64D p1_0, some 1, 0⟩)], []⟩) := (i_Deque_handedOnce_l2_all n)

theorem i_Deque_handedOnce_ok (a0 : Deque) (a1 : List Int) (r : Bool) (h : i_Deque_handedOnce a0 a1 = some r) : AC Try.prog 20 [.rop (Deque.avs a0) 0, .ro (List.map i64D a1)] (.bool r) := by
  unfold i_Deque_handedOnce at h
  refine ac_fn mixed Try.func20 rfl rfl rfl (by kernel_rfl) (by kernel_rfl) ?_
  try simp only [go_sem]
  refine draw_i [] .fin (by kernel_rfl) ?_
  try simp only [go_sem]
  replace h := bindE h
  obtain ⟨v2001, hv2001, h⟩ := h
  refine call_i (i_Deque_tasksLeft_ok _ _ hv2001) ?_
  try simp only [go_sem]
  replace h := bindE h
  obtain ⟨v2007, hv2007, h⟩ := h
  refine call_i (g_Concat_sint64_ok _ _ hv2007) ?_
  try simp only [go_sem]
  refine seq_go ?_
  try simp only [go_sem]
  have hj := posF_to rfl rfl (i_Deque_handedOnce_l2_ok fuel a0 a1 v2007 0 _ h)
  refine loop_to hj (.one ⟨_, .done _, [(1000001000, 32112)], [], ?_⟩)
  clear hj
  try simp only [go_sem]
theorem i_HandedOnce_ok (a0 : Deque) (a1 : List Int) (r : Bool) (h : i_HandedOnce a0 a1 = some r) : AC Try.prog 8 [.agg (Deque.avs a0), .ro (List.map i64D a1)] (.bool r) := by
  unfold i_HandedOnce at h
  refine ac_fn mixed Try.func8 rfl rfl rfl (by kernel_rfl) (by kernel_rfl) ?_
  try simp only [go_sem]
  replace h := bindE h
  obtain ⟨v2001, hv2001, h⟩ := h
  refine call_i (i_IsDequeDone_ok _ _ hv2001) ?_
  try simp only [go_sem]
  refine cond_i (fun hb1 => ?_) (fun hb1 => ?_)
  · replace h := ifT (c := v2001) hb1 h
    try simp only [go_sem]
    refine cond_i (fun hb2 => ?_) (fun hb2 => ?_)
    · replace h := ifT (c := (decide (((List.length a1 : Nat) : Int) ≤ 3000))) hb2 h
      try simp only [go_sem]
      replace h := bindE h
      obtain ⟨v2009, hv2009, h⟩ := h
      refine call_i (i_Deque_handedOnce_ok _ _ _ hv2009) ?_
      try simp only [go_sem]
      refine seq_go ?_
      try simp only [go_sem]
      replace h := Option.some.inj h
      obtain rfl := h
      simp only [go_sem]
    · replace h := ifF (c := (decide (((List.length a1 : Nat) : Int) ≤ 3000))) hb2 h
      try simp only [go_sem]
      refine seq_go ?_
      try simp only [go_sem]
      replace h := Option.some.inj h
      obtain rfl := h
      simp only [go_sem]
  · replace h := ifF (c := v2001) hb1 h
    try simp only [go_sem]
    refine seq_go ?_
    try simp only [go_sem]
    replace h := Option.some.inj h
    obtain rfl := h
    simp only [go_sem]
theorem l_FnExactHandedOnce_ok (a0 : Deque) (a1 : List Int) (r : Bool) (h : l_FnExactHandedOnce a0 a1 = some r) : AC Try.prog 3 [.agg (Deque.avs a0), .ro (List.map i64D a1)] (.bool r) := by
  unfold l_FnExactHandedOnce at h
  refine ac_fn mixed Try.func3 rfl rfl rfl (by kernel_rfl) (by kernel_rfl) ?_
  try simp only [go_sem]
  refine cond_i (fun hb1 => ?_) (fun hb1 => ?_)
  · replace h := ifT (c := (decide (1048576 < ((List.length a1 : Nat) : Int)))) hb1 h
    try simp only [go_sem]
    replace h := Option.some.inj h
    obtain rfl := h
    simp only [go_sem]
  · replace h := ifF (c := (decide (1048576 < ((List.length a1 : Nat) : Int)))) hb1 h
    try simp only [go_sem]
    refine seq_go ?_
    try simp only [go_sem]
    replace h := bindE h
    obtain ⟨v5002, hv5002, h⟩ := h
    refine call_i (l_szDeque_ok _ _ _ hv5002) ?_
    try simp only [go_sem]
    refine cond_i (fun hb2 => ?_) (fun hb2 => ?_)
    · replace h := ifT (c := (decide (v5002 < 0))) hb2 h
      try simp only [go_sem]
      replace h := Option.some.inj h
      obtain rfl := h
      simp only [go_sem]
    · replace h := ifF (c := (decide (v5002 < 0))) hb2 h
      try simp only [go_sem]
      refine seq_go ?_
      try simp only [go_sem]
      replace h := bindE h
      obtain ⟨v8001, hv8001, h⟩ := h
      refine call_i (l_toDeque_ok _ _ hv8001) ?_
      try simp only [go_sem]
      replace h := bindE h
      obtain ⟨v8003, hv8003, h⟩ := h
      refine call_i (l_toInt64S_ok _ _ hv8003) ?_
      try simp only [go_sem]
      replace h := bindE h
      obtain ⟨v8004, hv8004, h⟩ := h
      refine call_i (s_HandedOnce_ok _ _ _ hv8004) ?_
      try simp only [go_sem]
      replace h := bindE h
      obtain ⟨v9001, hv9001, h⟩ := h
      refine call_i (l_toDeque_ok _ _ hv9001) ?_
      try simp only [go_sem]
      replace h := bindE h
      obtain ⟨v10001, hv10001, h⟩ := h
      refine call_i (l_toInt64S_ok _ _ hv10001) ?_
      try simp only [go_sem]
      replace h := bindE h
      obtain ⟨v11002, hv11002, h⟩ := h
      refine call_i (i_HandedOnce_ok _ _ _ hv11002) ?_
      try simp only [go_sem]
      refine cond_i (fun hb3 => ?_) (fun hb3 => ?_)
      · replace h := ifT (c := (!(v11002 == v8004))) hb3 h
        try simp only [go_sem]
        replace h := Option.some.inj h
        obtain rfl := h
        simp only [go_sem]
      · replace h := ifF (c := (!(v11002 == v8004))) hb3 h
        try simp only [go_sem]
        refine seq_go ?_
        try simp only [go_sem]
        refine draw_i [] .fin (by kernel_rfl) ?_
        try simp only [go_sem]
        replace h := bindE h
        obtain ⟨v14002, hv14002, h⟩ := h
        refine call_i (l_toDeque_ok _ _ hv14002) ?_
        try simp only [go_sem]
        replace h := bindE h
        obtain ⟨v14003, hv14003, h⟩ := h
        refine call_i (l_eqDeque_ok _ _ _ hv14003) ?_
        try simp only [go_sem]
        refine seq_go ?_
        try simp only [go_sem]
        refine cond_i (fun hb4 => ?_) (fun hb4 => ?_)
        · replace h := ifT (c := (!v14003)) hb4 h
          try simp only [go_sem]
          replace h := Option.some.inj h
          obtain rfl := h
          simp only [go_sem]
        · replace h := ifF (c := (!v14003)) hb4 h
          try simp only [go_sem]
          refine seq_go ?_
          try simp only [go_sem]
          replace h := bindE h
          obtain ⟨v16002, hv16002, h⟩ := h
          refine call_i (l_toInt64S_ok _ _ hv16002) ?_
          try simp only [go_sem]
          replace h := bindE h
          obtain ⟨v16003, hv16003, h⟩ := h
          refine call_i (l_eqInt64S_ok _ _ _ hv16003) ?_
          try simp only [go_sem]
          refine cond_i (fun hb5 => ?_) (fun hb5 => ?_)
          · replace h := ifT (c := (!v16003)) hb5 h
            try simp only [go_sem]
            replace h := Option.some.inj h
            obtain rfl := h
            simp only [go_sem]
          · replace h := ifF (c := (!v16003)) hb5 h
            try simp only [go_sem]
            refine seq_go ?_
            try simp only [go_sem]
            replace h := Option.some.inj h
            obtain rfl := h
            simp only [go_sem]
end Go.Proofs.Ytckcfdggbbabfaa.Ab
