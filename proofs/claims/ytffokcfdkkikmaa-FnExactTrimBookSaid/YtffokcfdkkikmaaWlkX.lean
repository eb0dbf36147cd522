/-
  The functions do what their models say. Printed by wip/ab/gen.py.
-/
import Derived.Test.YtffokcfdkkikmaaModX
import Derived.Test.YtffokcfdkkikmaaTi2
import Derived.Test.YtffokcfdkkikmaaWlkY
namespace Go.Proofs.Ytffokcfdkkikmaa.Ab
set_option linter.unusedVariables false
set_option linter.unusedSimpArgs false
set_option maxRecDepth 20000
set_option maxHeartbeats 4000000
open Go.RowKit

theorem s_l35Code_ok (a0 : Book) (a1 : Int) (r : Int) (h : s_l35Code a0 a1 = some r) : AC Try.prog 127 [.rop (Book.avs a0) 0, .int .i64 a1] (.int .i64 r) := by
  unfold s_l35Code at h
  refine ac_fn mixed Try.func127 rfl rfl rfl (by kernel_rfl) (by kernel_rfl) ?_
  try simp only [go_sem]
  replace h := bindE h
  obtain ⟨v2001, hv2001, h⟩ := h
  refine call_i (s_l06Book_ok _ _ hv2001) ?_
  try simp only [go_sem]
  refine cond_i (fun hb1 => ?_) (fun hb1 => ?_)
  · replace h := ifT (c := (!v2001)) hb1 h
    try simp only [go_sem]
    replace h := Option.some.inj h
    obtain rfl := h
    simp only [go_sem]
  · replace h := ifF (c := (!v2001)) hb1 h
    try simp only [go_sem]
    refine seq_go ?_
    try simp only [go_sem]
    replace h := bindE h
    obtain ⟨v4007, hv4007, h⟩ := h
    refine call_i (s_l00In_ok _ _ _ _ hv4007) ?_
    try simp only [go_sem]
    refine cond_i (fun hb2 => ?_) (fun hb2 => ?_)
    · replace h := ifT (c := (!v4007)) hb2 h
      try simp only [go_sem]
      replace h := Option.some.inj h
      obtain rfl := h
      simp only [go_sem]
    · replace h := ifF (c := (!v4007)) hb2 h
      try simp only [go_sem]
      refine seq_go ?_
      try simp only [go_sem]
      replace h := Option.some.inj h
      obtain rfl := h
      simp only [go_sem]
theorem s_l35Live_l72_all (n : Nat) : (∀ (a0 : Book) (v2001 : (List (List Int))) (p7_0 : List Int) (p7_1 : Int) (r : (List Int)), s_l35Live_l72 n a0 v2001 p7_0 p7_1 = some r → posF Try.prog Try.f128 [1, 1, 1, 0, 1, 0] (.ow (some 1) (List.map i64D r)) ⟨[(0, .rop [.ro (List.map Core.ds a0.defs)] 0), (5, .own 1000007000), (6, .own 1000007001), (7, .int .i64 p7_1)], [(1000007000, some ⟨List.map (slD i64D) v2001, some 1, 0⟩), (1000007001, some ⟨List.map i64D p7_0, some 1, 0⟩)], []⟩) ∧
    (∀ (a0 : Book) (p7_1 : Int) (v2001 : (List (List Int))) (v7001 : (List Int)) (p11_0 : List Int) (p11_1 : Int) (r : (List Int)), s_l35Live_l84 n a0 p7_1 v2001 v7001 p11_0 p11_1 = some r → posF Try.prog Try.f128 [1, 1, 1, 0, 1, 0, 0, 1, 0, 0, 1, 1, 0] (.ow (some 1) (List.map i64D r)) ⟨[(0, .rop [.ro (List.map Core.ds a0.defs)] 0), (5, .own 1000011000), (6, .own 1000011001), (7, .int .i64 p7_1), (8, .own 1000011002), (9, .int .i64 p11_1)], [(1000011000, some ⟨List.map (slD i64D) v2001, some 1, 0⟩), (1000011001, some ⟨List.map i64D p11_0, some 1, 0⟩), (1000011002, some ⟨List.map i64D v7001, some 1, 0⟩)], []⟩) ∧
    (∀ (a0 : Book) (p7_1 : Int) (p11_1 : Int) (v2001 : (List (List Int))) (v7001 : (List Int)) (p13_0 : List Int) (p13_1 : Int) (r : (List Int)), s_l35Live_l86 n a0 p7_1 p11_1 v2001 v7001 p13_0 p13_1 = some r → posF Try.prog Try.f128 [1, 1, 1, 0, 1, 0, 0, 1, 0, 0, 1, 1, 0, 0, 1, 0, 0, 1, 0] (.ow (some 1) (List.map i64D r)) ⟨[(0, .rop [.ro (List.map Core.ds a0.defs)] 0), (5, .own 1000013000), (6, .own 1000013001), (7, .int .i64 p7_1), (8, .own 1000013002), (9, .int .i64 p11_1), (10, .int .i64 p13_1)], [(1000013000, some ⟨List.map (slD i64D) v2001, some 1, 0⟩), (1000013001, some ⟨List.map i64D p13_0, some 1, 0⟩), (1000013002, some ⟨List.map i64D v7001, some 1, 0⟩)], []⟩) := by
  induction n with
  | zero => exact ⟨(fun _ _ _ _ _ h => by rw [s_l35Live_l72] at h; cases h), (fun _ _ _ _ _ _ _ h => by rw [s_l35Live_l84] at h; cases h), (fun _ _ _ _ _ _ _ _ h => by rw [s_l35Live_l86] at h; cases h)⟩
  | succ n ih =>
    obtain ⟨ih0, ih1, ih2⟩ := ih
    refine ⟨?_, ?_, ?_⟩
    · intro a0 v2001 p7_0 p7_1 r h
      rw [s_l35Live_l72] at h
      refine posF_of rfl rfl ?_
      try simp only [go_sem]
      refine loop_i ?_
      try simp only [go_sem]
      refine cond_i (fun hb1 => ?_) (fun hb1 => ?_)
      · replace h := ifT (c := (decide (p7_1 < ((List.length a0.defs : Nat) : Int)))) hb1 h
        try simp only [go_sem]
        refine seq_go ?_
        try simp only [go_sem]
        replace h := bindE h
        obtain ⟨v7001, hv7001, h⟩ := h
        refine call_i (s_l00Own_ok _ _ hv7001) ?_
        try simp only [go_sem]
        have hj := posF_to rfl rfl (ih1 a0 p7_1 v2001 v7001 p7_0 0 _ h)
        refine loop_to hj (.one ⟨_, .done _, [(1000011000, 1000007000), (1000011001, 1000007001), (1000011002, 112016)], [], ?_⟩)
        clear hj
        try simp only [go_sem]
      · replace h := ifF (c := (decide (p7_1 < ((List.length a0.defs : Nat) : Int)))) hb1 h
        try simp only [go_sem]
        refine seq_go ?_
        try simp only [go_sem]
        replace h := Option.some.inj h
        obtain rfl := h
        simp only [go_sem]
    · intro a0 p7_1 v2001 v7001 p11_0 p11_1 r h
      rw [s_l35Live_l84] at h
      refine posF_of rfl rfl ?_
      try simp only [go_sem]
      refine loop_i ?_
      try simp only [go_sem]
      refine cond_i (fun hb2 => ?_) (fun hb2 => ?_)
      · replace h := ifT (c := (decide (p11_1 < ((List.length v7001 : Nat) : Int)))) hb2 h
        try simp only [go_sem]
        refine seq_go ?_
        try simp only [go_sem]
        have hj := posF_to rfl rfl (ih2 a0 p7_1 p11_1 v2001 v7001 p11_0 0 _ h)
        refine loop_to hj (.one ⟨_, .done _, [(1000013000, 1000011000), (1000013001, 1000011001), (1000013002, 1000011002)], [], ?_⟩)
        clear hj
        try simp only [go_sem]
      · replace h := ifF (c := (decide (p11_1 < ((List.length v7001 : Nat) : Int)))) hb2 h
        try simp only [go_sem]
        refine seq_go ?_
        try simp only [go_sem]
        have hj := posF_to rfl rfl (ih0 a0 v2001 p11_0 (IntKind.i64.wrap (p7_1 + 1)) _ h)
        refine lp_to hj (.one ⟨_, .done _, [(1000007000, 1000011000), (1000007001, 1000011001)], [], ?_⟩)
        clear hj
        try simp only [go_sem]
    · intro a0 p7_1 p11_1 v2001 v7001 p13_0 p13_1 r h
      rw [s_l35Live_l86] at h
      refine posF_of rfl rfl ?_
      try simp only [go_sem]
      refine loop_i ?_
      try simp only [go_sem]
      replace h := bindE h
      obtain ⟨v12004, hv12004, h⟩ := h
      refine idx_m hv12004 rfl ?_
      try simp only [go_sem]
      refine opt_i (row_m hv12004) ?_
      try simp only [go_sem]
      replace h := bindE h
      obtain ⟨v12006, hv12006, h⟩ := h
      refine idx_m hv12006 rfl ?_
      try simp only [go_sem]
      refine opt_i (row_m hv12006) ?_
      try simp only [go_sem]
      refine opt_i (getP_1 (sz := 1) (j := 0) (r := List.map i64D v12006) (row_m (f := (slD i64D)) hv12006) rfl (by rfl)) ?_
      try simp only [go_sem]
      refine cond_i (fun hb3 => ?_) (fun hb3 => ?_)
      · replace h := ifT (c := (decide (p13_1 < ((List.length v12006 : Nat) : Int)))) hb3 h
        try simp only [go_sem]
        refine seq_go ?_
        try simp only [go_sem]
        replace h := bindE h
        obtain ⟨v14004, hv14004, h⟩ := h
        refine idx_m hv14004 rfl ?_
        try simp only [go_sem]
        refine opt_i (row_m hv14004) ?_
        try simp only [go_sem]
        replace h := bindE h
        obtain ⟨v14006, hv14006, h⟩ := h
        refine idx_m hv14006 rfl ?_
        try simp only [go_sem]
        refine opt_i (row_m hv14006) ?_
        try simp only [go_sem]
        replace h := bindE h
        obtain ⟨v14009, hv14009, h⟩ := h
        refine opt_i (getP_1 (sz := 1) (j := 0) (r := List.map i64D v14006) (row_m (f := (slD i64D)) hv14006) rfl (by rfl)) ?_
        try simp only [go_sem]
        refine idx_m hv14009 rfl ?_
        try simp only [go_sem]
        refine opt_i (getP_1 (sz := 1) (j := 0) (r := List.map i64D v14006) (row_m (f := (slD i64D)) hv14006) rfl (by rfl)) ?_
        try simp only [go_sem]
        refine opt_i (row_m hv14009) ?_
        try simp only [go_sem]
        replace h := bindE h
        obtain ⟨v14011, hv14011, h⟩ := h
        refine call_i (s_l00Put_ok _ _ _ hv14011) ?_
        try simp only [go_sem]
        refine seq_go ?_
        try simp only [go_sem]
        have hj := posF_to rfl rfl (ih2 a0 p7_1 p11_1 v2001 v7001 v14011 (IntKind.i64.wrap (p13_1 + 1)) _ h)
        refine lp_to hj (.one ⟨_, .done _, [(1000013000, 1000013000), (1000013001, 224176), (1000013002, 1000013002)], [], ?_⟩)
        clear hj
        try simp only [go_sem]
      · replace h := ifF (c := (decide (p13_1 < ((List.length v12006 : Nat) : Int)))) hb3 h
        try simp only [go_sem]
        refine seq_go ?_
        try simp only [go_sem]
        have hj := posF_to rfl rfl (ih1 a0 p7_1 v2001 v7001 p13_0 (IntKind.i64.wrap (p11_1 + 1)) _ h)
        refine lp_to hj (.one ⟨_, .done _, [(1000011000, 1000013000), (1000011001, 1000013001), (1000011002, 1000013002)], [], ?_⟩)
        clear hj
        try simp only [go_sem]
theorem s_l35Live_l72_ok (n : Nat) : (∀ (a0 : Book) (v2001 : (List (List Int))) (p7_0 : List Int) (p7_1 : Int) (r : (List Int)), s_l35Live_l72 n a0 v2001 p7_0 p7_1 = some r → posF Try.prog Try.f128 [1, 1, 1, 0, 1, 0] (.ow (some 1) (List.map i64D r)) ⟨[(0, .rop [.ro (List.map Core.ds a0.defs)] 0), (5, .own 1000007000), (6, .own 1000007001), (7, .int .i64 p7_1)], [(1000007000, some ⟨List.map (slD i64D) v2001, some 1, 0⟩), (1000007001, some ⟨List.map i64D p7_0, some 1, 0⟩)], []⟩) := (s_l35Live_l72_all n).1
theorem s_l35Live_l84_ok (n : Nat) : (∀ (a0 : Book) (p7_1 : Int) (v2001 : (List (List Int))) (v7001 : (List Int)) (p11_0 : List Int) (p11_1 : Int) (r : (List Int)), s_l35Live_l84 n a0 p7_1 v2001 v7001 p11_0 p11_1 = some r → posF Try.prog Try.f128 [1, 1, 1, 0, 1, 0, 0, 1, 0, 0, 1, 1, 0] (.ow (some 1) (List.map i64D r)) ⟨[(0, .rop [.ro (List.map Core.ds a0.defs)] 0), (5, .own 1000011000), (6, .own 1000011001), (7, .int .i64 p7_1), (8, .own 1000011002), (9, .int .i64 p11_1)], [(1000011000, some ⟨List.map (slD i64D) v2001, some 1, 0⟩), (1000011001, some ⟨List.map i64D p11_0, some 1, 0⟩), (1000011002, some ⟨List.map i64D v7001, some 1, 0⟩)], []⟩) := (s_l35Live_l72_all n).2.1
theorem s_l35Live_l86_ok (n : Nat) : (∀ (a0 : Book) (p7_1 : Int) (p11_1 : Int) (v2001 : (List (List Int))) (v7001 : (List Int)) (p13_0 : List Int) (p13_1 : Int) (r : (List Int)), s_l35Live_l86 n a0 p7_1 p11_1 v2001 v7001 p13_0 p13_1 = some r → posF Try.prog Try.f128 [1, 1, 1, 0, 1, 0, 0, 1, 0, 0, 1, 1, 0, 0, 1, 0, 0, 1, 0] (.ow (some 1) (List.map i64D r)) ⟨[(0, .rop [.ro (List.map Core.ds a0.defs)] 0), (5, .own 1000013000), (6, .own 1000013001), (7, .int .i64 p7_1), (8, .own 1000013002), (9, .int .i64 p11_1), (10, .int .i64 p13_1)], [(1000013000, some ⟨List.map (slD i64D) v2001, some 1, 0⟩), (1000013001, some ⟨List.map i64D p13_0, some 1, 0⟩), (1000013002, some ⟨List.map i64D v7001, some 1, 0⟩)], []⟩) := (s_l35Live_l72_all n).2.2

theorem s_l35Live_ok (a0 : Book) (a1 : Int) (r : (List Int)) (h : s_l35Live a0 a1 = some r) : AC Try.prog 128 [.rop (Book.avs a0) 0, .int .i64 a1] (.ow (some 1) (List.map i64D r)) := by
  unfold s_l35Live at h
  refine ac_fn mixed Try.func128 rfl rfl rfl (by kernel_rfl) (by kernel_rfl) ?_
  try simp only [go_sem]
  replace h := bindE h
  obtain ⟨v2001, hv2001, h⟩ := h
  refine call_i (s_l35Uses_ok _ _ hv2001) ?_
  try simp only [go_sem]
  have hj := posF_to rfl rfl (s_l35Live_l72_ok fuel a0 v2001 [a1] 0 _ h)
  refine loop_to hj (.one ⟨_, .lit 6 2000000000 3001 1 1 [] _ _ (by (first | rfl | (simp only [go_sem]; rfl))) (by simp only [go_sem]; rfl) (by (first | rfl | (simp only [go_sem]; rfl))) (by (first | rfl | (simp only [go_sem]; rfl))) (by decide) (by decide) (by simp only [go_sem]) (.done _), [(1000007000, 32016), (1000007001, 2000000000)], [], ?_⟩)
  clear hj
  simp only [go_sem]
  all_goals try rfl
theorem s_DeadDefs_l2_all (n : Nat) : (∀ (a0 : Book) (v5001 : (List Int)) (p1_0 : List Int) (p1_1 : Int) (r : (List Int) × Int), s_DeadDefs_l2 n a0 v5001 p1_0 p1_1 = some r → posF Try.prog Try.f64 [1, 1, 1, 1, 0, 1, 0] (.tup [.ow (some 1) (List.map i64D r.1), .int .i64 r.2]) ⟨[(2, .box 1000001500 0), (7, .own 1000001000), (8, .own 1000001001), (9, .int .i64 p1_1)], [(1000001000, some ⟨List.map i64D v5001, some 1, 0⟩), (1000001001, some ⟨List.map i64D p1_0, some 1, 0⟩)], [(1000001500, some [.ro (List.map Core.ds a0.defs)])]⟩) := by
  induction n with
  | zero => exact ((fun _ _ _ _ _ h => by rw [s_DeadDefs_l2] at h; cases h))
  | succ n ih =>
    have ih0 := ih
    · intro a0 v5001 p1_0 p1_1 r h
      rw [s_DeadDefs_l2] at h
      refine posF_of rfl rfl ?_
      try simp only [go_sem]
      refine loop_i ?_
      try simp only [go_sem]
      refine cond_i (fun hb2 => ?_) (fun hb2 => ?_)
      · replace h := ifT (c := (decide (p1_1 < ((List.length a0.defs : Nat) : Int)))) hb2 h
        try simp only [go_sem]
        refine seq_go ?_
        try simp only [go_sem]
        replace h := bindE h
        obtain ⟨v10002, hv10002, h⟩ := h
        refine call_i (s_l00Has_ok _ _ _ hv10002) ?_
        try simp only [go_sem]
        refine cond_i (fun hb3 => ?_) (fun hb3 => ?_)
        · replace h := ifT (c := (!v10002)) hb3 h
          try simp only [go_sem]
          replace h := bindE h
          obtain ⟨v11003, hv11003, h⟩ := h
          have hq_ := app_some hv11003
          obtain ⟨hv11003a, hv11003b⟩ := hq_
          refine and_i (by refine ⟨?_, ?_⟩ <;> (try simp only [List.length_map, List.length_append, List.length_cons, List.length_nil] at *) <;> (try unfold maxLen) <;> omega) ?_
          try simp only [go_sem]
          refine row_i (List.map i64D v11003) (by rw [← hv11003b]; simp only [List.map_append, List.map_cons, List.map_nil, List.nil_append, List.append_nil, go_sem, slD]) ?_
          try simp only [go_sem]
          refine seq_go ?_
          try simp only [go_sem]
          have hj := posF_to rfl rfl (ih0 a0 v5001 v11003 (IntKind.i64.wrap (p1_1 + 1)) _ h)
          refine lp_to hj (.one ⟨_, .done _, [(1000001000, 1000001000), (1000001001, 176048)], [(1000001500, 1000001500)], ?_⟩)
          clear hj
          try simp only [go_sem]
        · replace h := ifF (c := (!v10002)) hb3 h
          try simp only [go_sem]
          refine seq_go ?_
          try simp only [go_sem]
          have hj := posF_to rfl rfl (ih0 a0 v5001 p1_0 (IntKind.i64.wrap (p1_1 + 1)) _ h)
          refine lp_to hj (.one ⟨_, .done _, [(1000001000, 1000001000), (1000001001, 1000001001)], [(1000001500, 1000001500)], ?_⟩)
          clear hj
          try simp only [go_sem]
      · replace h := ifF (c := (decide (p1_1 < ((List.length a0.defs : Nat) : Int)))) hb2 h
        try simp only [go_sem]
        refine seq_go ?_
        try simp only [go_sem]
        replace h := Option.some.inj h
        obtain rfl := h
        simp only [go_sem]
theorem s_DeadDefs_l2_ok (n : Nat) : (∀ (a0 : Book) (v5001 : (List Int)) (p1_0 : List Int) (p1_1 : Int) (r : (List Int) × Int), s_DeadDefs_l2 n a0 v5001 p1_0 p1_1 = some r → posF Try.prog Try.f64 [1, 1, 1, 1, 0, 1, 0] (.tup [.ow (some 1) (List.map i64D r.1), .int .i64 r.2]) ⟨[(2, .box 1000001500 0), (7, .own 1000001000), (8, .own 1000001001), (9, .int .i64 p1_1)], [(1000001000, some ⟨List.map i64D v5001, some 1, 0⟩), (1000001001, some ⟨List.map i64D p1_0, some 1, 0⟩)], [(1000001500, some [.ro (List.map Core.ds a0.defs)])]⟩) := (s_DeadDefs_l2_all n)

theorem s_DeadDefs_ok (a0 : Book) (a1 : Int) (r : (List Int) × Int) (h : s_DeadDefs a0 a1 = some r) : AC Try.prog 64 [.agg (Book.avs a0), .int .i64 a1] (.tup [.ow (some 1) (List.map i64D r.1), .int .i64 r.2]) := by
  unfold s_DeadDefs at h
  refine ac_fn mixed Try.func64 rfl rfl rfl (by kernel_rfl) (by kernel_rfl) ?_
  try simp only [go_sem]
  replace h := bindE h
  obtain ⟨v2001, hv2001, h⟩ := h
  refine call_i (s_l35Code_ok _ _ _ hv2001) ?_
  try simp only [go_sem]
  refine cond_i (fun hb1 => ?_) (fun hb1 => ?_)
  · replace h := ifT (c := (!decide (v2001 = 0))) hb1 h
    try simp only [go_sem]
    replace h := Option.some.inj h
    obtain rfl := h
    simp only [go_sem]
  · replace h := ifF (c := (!decide (v2001 = 0))) hb1 h
    try simp only [go_sem]
    refine seq_go ?_
    try simp only [go_sem]
    replace h := bindE h
    obtain ⟨v5001, hv5001, h⟩ := h
    refine call_i (s_l35Live_ok _ _ _ hv5001) ?_
    try simp only [go_sem]
    have hj := posF_to rfl rfl (s_DeadDefs_l2_ok fuel a0 v5001 [] 0 _ h)
    refine loop_to hj (.one ⟨_, .lit 8 2000000000 6000 0 1 [] _ _ (by (first | rfl | (simp only [go_sem]; rfl))) (by simp only [go_sem]; rfl) (by (first | rfl | (simp only [go_sem]; rfl))) (by (first | rfl | (simp only [go_sem]; rfl))) (by decide) (by decide) (by simp only [go_sem]) (.done _), [(1000001000, 80016), (1000001001, 2000000000)], [(1000001500, 1000)], ?_⟩)
    clear hj
    simp only [go_sem]
    all_goals try rfl
theorem i_atMost_1_ok (a0 : Int) (a1 : Int) (r : Bool) (h : i_atMost_1 a0 a1 = some r) : AC Try.prog 198 [.int .i64 a0, .rop [.int .i64 a1] 0] (.bool r) := by
  unfold i_atMost_1 at h
  refine ac_fn mixed Try.func198 rfl rfl rfl (by kernel_rfl) (by kernel_rfl) ?_
  try simp only [go_sem]
  refine cond_i (fun hb1 => ?_) (fun hb1 => ?_)
  · replace h := ifT (c := (decide (a0 < 0))) hb1 h
    try simp only [go_sem]
    refine seq_go ?_
    try simp only [go_sem]
    replace h := Option.some.inj h
    obtain rfl := h
    simp only [go_sem]
  · replace h := ifF (c := (decide (a0 < 0))) hb1 h
    try simp only [go_sem]
    refine seq_go ?_
    try simp only [go_sem]
    replace h := Option.some.inj h
    obtain rfl := h
    simp only [go_sem]
theorem i_atMost_ok (a0 : Int) (a1 : List Int) (r : Bool) (h : i_atMost a0 a1 = some r) : AC Try.prog 108 [.int .i64 a0, .ro (List.map i64D a1)] (.bool r) := by
  unfold i_atMost at h
  refine ac_fn mixed Try.func108 rfl rfl rfl (by kernel_rfl) (by kernel_rfl) ?_
  try simp only [go_sem]
  replace h := bindE h
  obtain ⟨v2002, hv2002, h⟩ := h
  refine call_i (g_ContainsFunc_sint64_ok _ _ 198 [.rop [.int .i64 a0] 0] (Still.of (by simp only [pureAs, pureA, Bool.and_true, Bool.true_and, Bool.and_self])) (fun y0 q hq => i_atMost_1_ok y0 _ q hq) _ hv2002) ?_
  try simp only [go_sem]
  replace h := Option.some.inj h
  obtain rfl := h
  simp only [go_sem]
theorem i_hasDefinition_ok (a0 : Book) (a1 : Int) (r : Int) (h : i_hasDefinition a0 a1 = some r) : AC Try.prog 130 [.agg (Book.avs a0), .int .i64 a1] (.int .i64 r) := by
  unfold i_hasDefinition at h
  refine ac_fn mixed Try.func130 rfl rfl rfl (by kernel_rfl) (by kernel_rfl) ?_
  try simp only [go_sem]
  replace h := bindE h
  obtain ⟨v2001, hv2001, h⟩ := h
  refine call_i (i_ValidBook_ok _ _ hv2001) ?_
  try simp only [go_sem]
  refine cond_i (fun hb1 => ?_) (fun hb1 => ?_)
  · replace h := ifT (c := (!v2001)) hb1 h
    try simp only [go_sem]
    replace h := Option.some.inj h
    obtain rfl := h
    simp only [go_sem]
  · replace h := ifF (c := (!v2001)) hb1 h
    try simp only [go_sem]
    replace h := bindE h
    obtain ⟨v4006, hv4006, h⟩ := h
    refine call_i (i_atMost_ok _ _ _ hv4006) ?_
    try simp only [go_sem]
    refine cond_i (fun hb2 => ?_) (fun hb2 => ?_)
    · replace h := ifT (c := (!v4006)) hb2 h
      try simp only [go_sem]
      replace h := Option.some.inj h
      obtain rfl := h
      simp only [go_sem]
    · replace h := ifF (c := (!v4006)) hb2 h
      try simp only [go_sem]
      refine seq_go ?_
      try simp only [go_sem]
      replace h := Option.some.inj h
      obtain rfl := h
      simp only [go_sem]
theorem i_DeadDefs_l2_all (n : Nat) : (∀ (a0 : Book) (v5003 : (List Int)) (p1_0 : List Int) (p1_1 : Int) (r : (List Int) × Int), i_DeadDefs_l2 n a0 v5003 p1_0 p1_1 = some r → posF Try.prog Try.f65 [1, 1, 1, 1, 0, 1, 0] (.tup [.ow (some 1) (List.map i64D r.1), .int .i64 r.2]) ⟨[(7, .own 1000001000), (8, .own 1000001001), (22, .int .i64 ((List.length a0.defs : Nat) : Int)), (23, .int .i64 p1_1)], [(1000001000, some ⟨List.map i64D v5003, some 1, 0⟩), (1000001001, some ⟨List.map i64D p1_0, some 1, 0⟩)], []⟩) := by
  induction n with
  | zero => exact ((fun _ _ _ _ _ h => by rw [i_DeadDefs_l2] at h; cases h))
  | succ n ih =>
    have ih0 := ih
    · intro a0 v5003 p1_0 p1_1 r h
      rw [i_DeadDefs_l2] at h
      refine posF_of rfl rfl ?_
      try simp only [go_sem]
      refine loop_i ?_
      try simp only [go_sem]
      refine cond_i (fun hb2 => ?_) (fun hb2 => ?_)
      · replace h := ifT (c := (decide (p1_1 < ((List.length a0.defs : Nat) : Int)))) hb2 h
        try simp only [go_sem]
        refine seq_go ?_
        try simp only [go_sem]
        replace h := bindE h
        obtain ⟨v10002, hv10002, h⟩ := h
        refine call_i (g_Contains_sint64_ok _ _ _ hv10002) ?_
        try simp only [go_sem]
        refine cond_i (fun hb3 => ?_) (fun hb3 => ?_)
        · replace h := ifT (c := (!v10002)) hb3 h
          try simp only [go_sem]
          replace h := bindE h
          obtain ⟨v11003, hv11003, h⟩ := h
          have hq_ := app_some hv11003
          obtain ⟨hv11003a, hv11003b⟩ := hq_
          refine and_i (by refine ⟨?_, ?_⟩ <;> (try simp only [List.length_map, List.length_append, List.length_cons, List.length_nil] at *) <;> (try unfold maxLen) <;> omega) ?_
          try simp only [go_sem]
          refine row_i (List.map i64D v11003) (by rw [← hv11003b]; simp only [List.map_append, List.map_cons, List.map_nil, List.nil_append, List.append_nil, go_sem, slD]) ?_
          try simp only [go_sem]
          refine seq_go ?_
          try simp only [go_sem]
          have hj := posF_to rfl rfl (ih0 a0 v5003 v11003 (IntKind.i64.wrap (p1_1 + 1)) _ h)
          refine lp_to hj (.one ⟨_, .done _, [(1000001000, 1000001000), (1000001001, 176048)], [], ?_⟩)
          clear hj
          try simp only [go_sem]
        · replace h := ifF (c := (!v10002)) hb3 h
          try simp only [go_sem]
          refine seq_go ?_
          try simp only [go_sem]
          have hj := posF_to rfl rfl (ih0 a0 v5003 p1_0 (IntKind.i64.wrap (p1_1 + 1)) _ h)
          refine lp_to hj (.one ⟨_, .done _, [(1000001000, 1000001000), (1000001001, 1000001001)], [], ?_⟩)
          clear hj
          try simp only [go_sem]
      · replace h := ifF (c := (decide (p1_1 < ((List.length a0.defs : Nat) : Int)))) hb2 h
        try simp only [go_sem]
        refine seq_go ?_
        try simp only [go_sem]
        replace h := Option.some.inj h
        obtain rfl := h
        simp only [go_sem]
theorem i_DeadDefs_l2_ok (n : Nat) : (∀ (a0 : Book) (v5003 : (List Int)) (p1_0 : List Int) (p1_1 : Int) (r : (List Int) × Int), i_DeadDefs_l2 n a0 v5003 p1_0 p1_1 = some r → posF Try.prog Try.f65 [1, 1, 1, 1, 0, 1, 0] (.tup [.ow (some 1) (List.map i64D r.1), .int .i64 r.2]) ⟨[(7, .own 1000001000), (8, .own 1000001001), (22, .int .i64 ((List.length a0.defs : Nat) : Int)), (23, .int .i64 p1_1)], [(1000001000, some ⟨List.map i64D v5003, some 1, 0⟩), (1000001001, some ⟨List.map i64D p1_0, some 1, 0⟩)], []⟩) := (i_DeadDefs_l2_all n)

theorem i_DeadDefs_ok (a0 : Book) (a1 : Int) (r : (List Int) × Int) (h : i_DeadDefs a0 a1 = some r) : AC Try.prog 65 [.agg (Book.avs a0), .int .i64 a1] (.tup [.ow (some 1) (List.map i64D r.1), .int .i64 r.2]) := by
  unfold i_DeadDefs at h
  refine ac_fn mixed Try.func65 rfl rfl rfl (by kernel_rfl) (by kernel_rfl) ?_
  try simp only [go_sem]
  replace h := bindE h
  obtain ⟨v2002, hv2002, h⟩ := h
  refine call_i (i_hasDefinition_ok _ _ _ hv2002) ?_
  try simp only [go_sem]
  refine cond_i (fun hb1 => ?_) (fun hb1 => ?_)
  · replace h := ifT (c := (!decide (v2002 = 0))) hb1 h
    try simp only [go_sem]
    replace h := Option.some.inj h
    obtain rfl := h
    simp only [go_sem]
  · replace h := ifF (c := (!decide (v2002 = 0))) hb1 h
    try simp only [go_sem]
    refine seq_go ?_
    try simp only [go_sem]
    replace h := bindE h
    obtain ⟨v5003, hv5003, h⟩ := h
    refine call_i (i_Book_reachableFrom_ok _ _ _ hv5003) ?_
    try simp only [go_sem]
    have hj := posF_to rfl rfl (i_DeadDefs_l2_ok fuel a0 v5003 [] 0 _ h)
    refine loop_to hj (.one ⟨_, .slot 8 2000000000 (some 1) (by simp only [go_sem]) (by simp only [go_sem]) (.done _), [(1000001000, 80048), (1000001001, 2000000000)], [], ?_⟩)
    clear hj
    simp only [go_sem]
    all_goals try rfl
theorem l_FnExactDeadDefs_j3_ok (v18002 : Int × (List Int)) (p2_0 : Bool) (r : Bool) (h : l_FnExactDeadDefs_j3 v18002 p2_0 = some r) : posF Try.prog Try.f13 [1, 1, 1, 1, 1, 1, 1, 1, 1, 1, 1, 1, 1, 1, 1, 1, 1, 1, 1, 0, 1] (.bool r) ⟨[(9, .own 1000002000), (12, .int .i64 v18002.1), (92, .bool p2_0)], [(1000002000, some ⟨List.map i64D v18002.2, some 1, 0⟩)], []⟩ := by
  unfold l_FnExactDeadDefs_j3 at h
  refine posF_of rfl rfl ?_
  try simp only [go_sem]
  refine cond_i (fun hb11 => ?_) (fun hb11 => ?_)
  · replace h := ifT (c := p2_0) hb11 h
    try simp only [go_sem]
    replace h := Option.some.inj h
    obtain rfl := h
    simp only [go_sem]
  · replace h := ifF (c := p2_0) hb11 h
    try simp only [go_sem]
    refine seq_go ?_
    try simp only [go_sem]
    replace h := bindE h
    obtain ⟨v29002, hv29002, h⟩ := h
    refine call_i (l_heldInt64S_ok _ _ _ hv29002) ?_
    try simp only [go_sem]
    refine cond_i (fun hb12 => ?_) (fun hb12 => ?_)
    · replace h := ifT (c := (decide (v29002 < 0))) hb12 h
      try simp only [go_sem]
      replace h := Option.some.inj h
      obtain rfl := h
      simp only [go_sem]
    · replace h := ifF (c := (decide (v29002 < 0))) hb12 h
      try simp only [go_sem]
      refine seq_go ?_
      try simp only [go_sem]
      refine cond_i (fun hb13 => ?_) (fun hb13 => ?_)
      · replace h := ifT (c := (!decide (v29002 = v18002.1))) hb13 h
        try simp only [go_sem]
        replace h := Option.some.inj h
        obtain rfl := h
        simp only [go_sem]
      · replace h := ifF (c := (!decide (v29002 = v18002.1))) hb13 h
        try simp only [go_sem]
        refine seq_go ?_
        try simp only [go_sem]
        replace h := Option.some.inj h
        obtain rfl := h
        simp only [go_sem]
theorem l_FnExactDeadDefs_j2_ok (a0 : Book) (a1 : Int) (v6003 : (List Int) × Int) (v8002 : (List Int) × Int) (p1_0 : Bool) (r : Bool) (h : l_FnExactDeadDefs_j2 a0 a1 v6003 v8002 p1_0 = some r) : posF Try.prog Try.f13 [1, 1, 1, 1, 1, 1, 1, 1, 1, 1, 1, 0, 1] (.bool r) ⟨[(1, .int .i64 a1), (2, .box 1000001500 0), (6, .own 1000001000), (7, .int .i64 v6003.2), (9, .own 1000001001), (65, .bool p1_0)], [(1000001000, some ⟨List.map i64D v6003.1, some 1, 0⟩), (1000001001, some ⟨List.map i64D v8002.1, some 1, 0⟩)], [(1000001500, some [.ro (List.map Core.ds a0.defs)])]⟩ := by
  unfold l_FnExactDeadDefs_j2 at h
  refine posF_of rfl rfl ?_
  try simp only [go_sem]
  refine cond_i (fun hb7 => ?_) (fun hb7 => ?_)
  · replace h := ifT (c := p1_0) hb7 h
    try simp only [go_sem]
    replace h := Option.some.inj h
    obtain rfl := h
    simp only [go_sem]
  · replace h := ifF (c := p1_0) hb7 h
    try simp only [go_sem]
    refine seq_go ?_
    try simp only [go_sem]
    replace h := bindE h
    obtain ⟨v18002, hv18002, h⟩ := h
    refine call_g ⟨[], [(1, 1000001001)], [], [], [], true⟩ (by kernel_rfl) (l_markInt64S_ok _ _ (some 1) _ hv18002) (by kernel_rfl) ?_
    try simp only [go_sem]
    replace h := bindE h
    obtain ⟨v20002, hv20002, h⟩ := h
    refine call_i (l_heldInt64S_ok _ _ _ hv20002) ?_
    try simp only [go_sem]
    refine cond_i (fun hb8 => ?_) (fun hb8 => ?_)
    · replace h := ifT (c := (decide (v20002 < 0))) hb8 h
      try simp only [go_sem]
      replace h := Option.some.inj h
      obtain rfl := h
      simp only [go_sem]
    · replace h := ifF (c := (decide (v20002 < 0))) hb8 h
      try simp only [go_sem]
      refine seq_go ?_
      try simp only [go_sem]
      refine cond_i (fun hb9 => ?_) (fun hb9 => ?_)
      · replace h := ifT (c := (!decide (v20002 = v18002.1))) hb9 h
        try simp only [go_sem]
        replace h := Option.some.inj h
        obtain rfl := h
        simp only [go_sem]
      · replace h := ifF (c := (!decide (v20002 = v18002.1))) hb9 h
        try simp only [go_sem]
        refine seq_go ?_
        try simp only [go_sem]
        replace h := bindE h
        obtain ⟨v25001, hv25001, h⟩ := h
        refine call_i (l_toBook_ok _ _ hv25001) ?_
        try simp only [go_sem]
        replace h := bindE h
        obtain ⟨v25003, hv25003, h⟩ := h
        refine call_i (i_DeadDefs_ok _ _ _ hv25003) ?_
        try simp only [go_sem]
        replace h := bindE h
        obtain ⟨v26002, hv26002, h⟩ := h
        refine call_i (l_eqInt64S_ok _ _ _ hv26002) ?_
        try simp only [go_sem]
        refine cond_i (fun hb10 => ?_) (fun hb10 => ?_)
        · replace h := ifT (c := (!v26002)) hb10 h
          try simp only [go_sem]
          have hj := posF_to rfl rfl (l_FnExactDeadDefs_j3_ok v18002 true _ h)
          refine seq_to hj (.one ⟨_, .done _, [(1000002000, 1000001001)], [], ?_⟩)
          clear hj
          try simp only [go_sem]
        · replace h := ifF (c := (!v26002)) hb10 h
          try simp only [go_sem]
          have hj := posF_to rfl rfl (l_FnExactDeadDefs_j3_ok v18002 (!decide (v25003.2 = v6003.2)) _ h)
          refine seq_to hj (.one ⟨_, .done _, [(1000002000, 1000001001)], [], ?_⟩)
          clear hj
          try simp only [go_sem]
theorem l_FnExactDeadDefs_j1_ok (a0 : Book) (a1 : Int) (v6003 : (List Int) × Int) (v7001 : Book) (v8002 : (List Int) × Int) (p0_0 : Bool) (r : Bool) (h : l_FnExactDeadDefs_j1 a0 a1 v6003 v7001 v8002 p0_0 = some r) : posF Try.prog Try.f13 [1, 1, 1, 1, 1, 1, 1, 0, 1] (.bool r) ⟨[(1, .int .i64 a1), (2, .box 1000000500 0), (6, .own 1000000000), (7, .int .i64 v6003.2), (8, .box 1000000501 0), (9, .own 1000000002), (10, .int .i64 v8002.2), (44, .bool p0_0)], [(1000000000, some ⟨List.map i64D v6003.1, some 1, 0⟩), (1000000001, some ⟨List.map Core.ds v7001.defs, some 4, 0⟩), (1000000002, some ⟨List.map i64D v8002.1, some 1, 0⟩)], [(1000000500, some [.ro (List.map Core.ds a0.defs)]), (1000000501, some [.own 1000000001])]⟩ := by
  unfold l_FnExactDeadDefs_j1 at h
  refine posF_of rfl rfl ?_
  try simp only [go_sem]
  refine cond_i (fun hb3 => ?_) (fun hb3 => ?_)
  · replace h := ifT (c := p0_0) hb3 h
    try simp only [go_sem]
    replace h := Option.some.inj h
    obtain rfl := h
    simp only [go_sem]
  · replace h := ifF (c := p0_0) hb3 h
    try simp only [go_sem]
    refine seq_go ?_
    try simp only [go_sem]
    refine draw_i [] .fin (by kernel_rfl) ?_
    try simp only [go_sem]
    replace h := bindE h
    obtain ⟨v11002, hv11002, h⟩ := h
    refine call_i (l_toBook_ok _ _ hv11002) ?_
    try simp only [go_sem]
    replace h := bindE h
    obtain ⟨v11003, hv11003, h⟩ := h
    refine call_i (l_eqBook_ok _ _ _ hv11003) ?_
    try simp only [go_sem]
    refine seq_go ?_
    try simp only [go_sem]
    refine cond_i (fun hb4 => ?_) (fun hb4 => ?_)
    · replace h := ifT (c := (!v11003)) hb4 h
      try simp only [go_sem]
      replace h := Option.some.inj h
      obtain rfl := h
      simp only [go_sem]
    · replace h := ifF (c := (!v11003)) hb4 h
      try simp only [go_sem]
      refine seq_go ?_
      try simp only [go_sem]
      replace h := bindE h
      obtain ⟨v14002, hv14002, h⟩ := h
      refine call_g ⟨[], [(1, 1000000001)], [], [], [], true⟩ (by kernel_rfl) (l_markBook_ok _ _ (some 4) _ hv14002) (by kernel_rfl) ?_
      try simp only [go_sem]
      refine cond_i (fun hb5 => ?_) (fun hb5 => ?_)
      · replace h := ifT (c := (decide (v14002.1 < 0))) hb5 h
        try simp only [go_sem]
        have hj := posF_to rfl rfl (l_FnExactDeadDefs_j2_ok a0 a1 v6003 v8002 true _ h)
        refine seq_to hj (.one ⟨_, .done _, [(1000001000, 1000000000), (1000001001, 1000000002)], [(1000001500, 1000000500)], ?_⟩)
        clear hj
        try simp only [go_sem]
      · replace h := ifF (c := (decide (v14002.1 < 0))) hb5 h
        try simp only [go_sem]
        replace h := bindE h
        obtain ⟨v15005, hv15005, h⟩ := h
        refine call_i (l_eqInt64S_ok _ _ _ hv15005) ?_
        try simp only [go_sem]
        refine cond_i (fun hb6 => ?_) (fun hb6 => ?_)
        · replace h := ifT (c := (!v15005)) hb6 h
          try simp only [go_sem]
          have hj := posF_to rfl rfl (l_FnExactDeadDefs_j2_ok a0 a1 v6003 v8002 true _ h)
          refine seq_to hj (.one ⟨_, .done _, [(1000001000, 1000000000), (1000001001, 1000000002)], [(1000001500, 1000000500)], ?_⟩)
          clear hj
          try simp only [go_sem]
        · replace h := ifF (c := (!v15005)) hb6 h
          try simp only [go_sem]
          have hj := posF_to rfl rfl (l_FnExactDeadDefs_j2_ok a0 a1 v6003 v8002 (!decide (v8002.2 = v6003.2)) _ h)
          refine seq_to hj (.one ⟨_, .done _, [(1000001000, 1000000000), (1000001001, 1000000002)], [(1000001500, 1000000500)], ?_⟩)
          clear hj
          try simp only [go_sem]
theorem l_FnExactDeadDefs_ok (a0 : Book) (a1 : Int) (r : Bool) (h : l_FnExactDeadDefs a0 a1 = some r) : AC Try.prog 13 [.agg (Book.avs a0), .int .i64 a1] (.bool r) := by
  unfold l_FnExactDeadDefs at h
  refine ac_fn mixed Try.func13 rfl rfl rfl (by kernel_rfl) (by kernel_rfl) ?_
  try simp only [go_sem]
  replace h := bindE h
  obtain ⟨v3002, hv3002, h⟩ := h
  refine call_i (l_szBook_ok _ _ _ hv3002) ?_
  try simp only [go_sem]
  refine cond_i (fun hb1 => ?_) (fun hb1 => ?_)
  · replace h := ifT (c := (decide (v3002 < 0))) hb1 h
    try simp only [go_sem]
    replace h := Option.some.inj h
    obtain rfl := h
    simp only [go_sem]
  · replace h := ifF (c := (decide (v3002 < 0))) hb1 h
    try simp only [go_sem]
    refine seq_go ?_
    try simp only [go_sem]
    replace h := bindE h
    obtain ⟨v6001, hv6001, h⟩ := h
    refine call_i (l_toBook_ok _ _ hv6001) ?_
    try simp only [go_sem]
    replace h := bindE h
    obtain ⟨v6003, hv6003, h⟩ := h
    refine call_i (s_DeadDefs_ok _ _ _ hv6003) ?_
    try simp only [go_sem]
    replace h := bindE h
    obtain ⟨v7001, hv7001, h⟩ := h
    refine call_i (l_toBook_ok _ _ hv7001) ?_
    try simp only [go_sem]
    replace h := bindE h
    obtain ⟨v8002, hv8002, h⟩ := h
    refine call_i (i_DeadDefs_ok _ _ _ hv8002) ?_
    try simp only [go_sem]
    replace h := bindE h
    obtain ⟨v9002, hv9002, h⟩ := h
    refine call_i (l_eqInt64S_ok _ _ _ hv9002) ?_
    try simp only [go_sem]
    refine cond_i (fun hb2 => ?_) (fun hb2 => ?_)
    · replace h := ifT (c := (!v9002)) hb2 h
      try simp only [go_sem]
      have hj := posF_to rfl rfl (l_FnExactDeadDefs_j1_ok a0 a1 v6003 v7001 v8002 true _ h)
      refine seq_to hj (.one ⟨_, .done _, [(1000000000, 96048), (1000000001, 112016), (1000000002, 128032)], [(1000000500, 1000), (1000000501, 7002)], ?_⟩)
      clear hj
      try simp only [go_sem]
    · replace h := ifF (c := (!v9002)) hb2 h
      try simp only [go_sem]
      have hj := posF_to rfl rfl (l_FnExactDeadDefs_j1_ok a0 a1 v6003 v7001 v8002 (!decide (v8002.2 = v6003.2)) _ h)
      refine seq_to hj (.one ⟨_, .done _, [(1000000000, 96048), (1000000001, 112016), (1000000002, 128032)], [(1000000500, 1000), (1000000501, 7002)], ?_⟩)
      clear hj
      try simp only [go_sem]
end Go.Proofs.Ytffokcfdkkikmaa.Ab
