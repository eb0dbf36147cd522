/-
  The functions do what their models say. Printed by wip/ab/gen.py.
-/
import Derived.Test.YtffokcfdkkikmaaModR
import Derived.Test.YtffokcfdkkikmaaTi2
import Derived.Test.YtffokcfdkkikmaaWlkY
namespace Go.Proofs.Ytffokcfdkkikmaa.Ab
set_option linter.unusedVariables false
set_option linter.unusedSimpArgs false
set_option maxRecDepth 20000
set_option maxHeartbeats 4000000
open Go.RowKit

theorem s_l37Recursive_l142_all (n : Nat) : (∀ (a0 : Book) (v2001 : (List (List Int))) (p13_0 : List Int) (p13_1 : Int) (r : (List Int)), s_l37Recursive_l142 n a0 v2001 p13_0 p13_1 = some r → posF Try.prog Try.f125 [1, 1, 1, 0, 1, 0] (.ow (some 1) (List.map i64D r)) ⟨[(0, .rop [.ro (List.map Core.ds a0.defs)] 0), (3, .own 1000013000), (4, .own 1000013001), (5, .int .i64 p13_1)], [(1000013000, some ⟨List.map (slD i64D) v2001, some 1, 0⟩), (1000013001, some ⟨List.map i64D p13_0, some 1, 0⟩)], []⟩) ∧
    (∀ (a0 : Book) (p13_0 : List Int) (p13_1 : Int) (v2001 : (List (List Int))) (p23_0 : List Int) (p23_1 : Int) (r : (List Int)), s_l37Recursive_l168 n a0 p13_0 p13_1 v2001 p23_0 p23_1 = some r → posF Try.prog Try.f125 [1, 1, 1, 0, 1, 0, 0, 1, 0, 0, 1, 0, 1, 0] (.ow (some 1) (List.map i64D r)) ⟨[(0, .rop [.ro (List.map Core.ds a0.defs)] 0), (3, .own 1000023000), (4, .own 1000023001), (5, .int .i64 p13_1), (6, .own 1000023002), (7, .int .i64 p23_1)], [(1000023000, some ⟨List.map (slD i64D) v2001, some 1, 0⟩), (1000023001, some ⟨List.map i64D p13_0, some 1, 0⟩), (1000023002, some ⟨List.map i64D p23_0, some 1, 0⟩)], []⟩) ∧
    (∀ (a0 : Book) (p13_0 : List Int) (p13_1 : Int) (p23_1 : Int) (v2001 : (List (List Int))) (p25_0 : List Int) (p25_1 : Int) (r : (List Int)), s_l37Recursive_l170 n a0 p13_0 p13_1 p23_1 v2001 p25_0 p25_1 = some r → posF Try.prog Try.f125 [1, 1, 1, 0, 1, 0, 0, 1, 0, 0, 1, 0, 1, 0, 0, 1, 0, 0, 1, 0] (.ow (some 1) (List.map i64D r)) ⟨[(0, .rop [.ro (List.map Core.ds a0.defs)] 0), (3, .own 1000025000), (4, .own 1000025001), (5, .int .i64 p13_1), (6, .own 1000025002), (7, .int .i64 p23_1), (8, .int .i64 p25_1)], [(1000025000, some ⟨List.map (slD i64D) v2001, some 1, 0⟩), (1000025001, some ⟨List.map i64D p13_0, some 1, 0⟩), (1000025002, some ⟨List.map i64D p25_0, some 1, 0⟩)], []⟩) := by
  induction n with
  | zero => exact ⟨(fun _ _ _ _ _ h => by rw [s_l37Recursive_l142] at h; cases h), (fun _ _ _ _ _ _ _ h => by rw [s_l37Recursive_l168] at h; cases h), (fun _ _ _ _ _ _ _ _ h => by rw [s_l37Recursive_l170] at h; cases h)⟩
  | succ n ih =>
    obtain ⟨ih0, ih1, ih2⟩ := ih
    refine ⟨?_, ?_, ?_⟩
    · intro a0 v2001 p13_0 p13_1 r h
      rw [s_l37Recursive_l142] at h
      refine posF_of rfl rfl ?_
      try simp only [go_sem]
      refine loop_i ?_
      try simp only [go_sem]
      refine cond_i (fun hb1 => ?_) (fun hb1 => ?_)
      · replace h := ifT (c := (decide (p13_1 < ((List.length a0.defs : Nat) : Int)))) hb1 h
        try simp only [go_sem]
        refine seq_go ?_
        try simp only [go_sem]
        replace h := bindE h
        obtain ⟨v7002, hv7002, h⟩ := h
        refine idx_m hv7002 rfl ?_
        try simp only [go_sem]
        refine opt_i (row_m hv7002) ?_
        try simp only [go_sem]
        replace h := bindE h
        obtain ⟨v7004, hv7004, h⟩ := h
        refine call_e (by simp only [row_m hv7002, slD, getP_1 (sz := 1) (j := 0) (r := List.map i64D v7002) (row_m (f := (slD i64D)) hv7002) rfl (by rfl), go_sem, Nat.reduceEqDiff, reduceIte] <;> rfl) (s_l00Own_ok _ _ hv7004) ?_
        try simp only [go_sem]
        have hj := posF_to rfl rfl (ih1 a0 p13_0 p13_1 v2001 v7004 0 _ h)
        refine loop_to hj (.one ⟨_, .done _, [(1000023000, 1000013000), (1000023001, 1000013001), (1000023002, 112064)], [], ?_⟩)
        clear hj
        try simp only [go_sem]
      · replace h := ifF (c := (decide (p13_1 < ((List.length a0.defs : Nat) : Int)))) hb1 h
        try simp only [go_sem]
        refine seq_go ?_
        try simp only [go_sem]
        replace h := Option.some.inj h
        obtain rfl := h
        simp only [go_sem]
    · intro a0 p13_0 p13_1 v2001 p23_0 p23_1 r h
      rw [s_l37Recursive_l168] at h
      refine posF_of rfl rfl ?_
      try simp only [go_sem]
      refine loop_i ?_
      try simp only [go_sem]
      refine cond_i (fun hb2 => ?_) (fun hb2 => ?_)
      · replace h := ifT (c := (decide (p23_1 < ((List.length p23_0 : Nat) : Int)))) hb2 h
        try simp only [go_sem]
        refine seq_go ?_
        try simp only [go_sem]
        have hj := posF_to rfl rfl (ih2 a0 p13_0 p13_1 p23_1 v2001 p23_0 0 _ h)
        refine loop_to hj (.one ⟨_, .done _, [(1000025000, 1000023000), (1000025001, 1000023001), (1000025002, 1000023002)], [], ?_⟩)
        clear hj
        try simp only [go_sem]
      · replace h := ifF (c := (decide (p23_1 < ((List.length p23_0 : Nat) : Int)))) hb2 h
        try simp only [go_sem]
        refine seq_go ?_
        try simp only [go_sem]
        replace h := bindE h
        obtain ⟨v16002, hv16002, h⟩ := h
        refine call_i (s_l00Has_ok _ _ _ hv16002) ?_
        try simp only [go_sem]
        refine cond_i (fun hb3 => ?_) (fun hb3 => ?_)
        · replace h := ifT (c := v16002) hb3 h
          try simp only [go_sem]
          replace h := bindE h
          obtain ⟨v17003, hv17003, h⟩ := h
          have hq_ := app_some hv17003
          obtain ⟨hv17003a, hv17003b⟩ := hq_
          refine and_i (by refine ⟨?_, ?_⟩ <;> (try simp only [List.length_map, List.length_append, List.length_cons, List.length_nil] at *) <;> (try unfold maxLen) <;> omega) ?_
          try simp only [go_sem]
          refine row_i (List.map i64D v17003) (by rw [← hv17003b]; simp only [List.map_append, List.map_cons, List.map_nil, List.nil_append, List.append_nil, go_sem, slD]) ?_
          try simp only [go_sem]
          refine seq_go ?_
          try simp only [go_sem]
          have hj := posF_to rfl rfl (ih0 a0 v2001 v17003 (IntKind.i64.wrap (p13_1 + 1)) _ h)
          refine lp_to hj (.one ⟨_, .done _, [(1000013000, 1000023000), (1000013001, 272048)], [], ?_⟩)
          clear hj
          try simp only [go_sem]
        · replace h := ifF (c := v16002) hb3 h
          try simp only [go_sem]
          refine seq_go ?_
          try simp only [go_sem]
          have hj := posF_to rfl rfl (ih0 a0 v2001 p13_0 (IntKind.i64.wrap (p13_1 + 1)) _ h)
          refine lp_to hj (.one ⟨_, .done _, [(1000013000, 1000023000), (1000013001, 1000023001)], [], ?_⟩)
          clear hj
          try simp only [go_sem]
    · intro a0 p13_0 p13_1 p23_1 v2001 p25_0 p25_1 r h
      rw [s_l37Recursive_l170] at h
      refine posF_of rfl rfl ?_
      try simp only [go_sem]
      refine loop_i ?_
      try simp only [go_sem]
      replace h := bindE h
      obtain ⟨v12004, hv12004, h⟩ := h
      refine idx_m hv12004 rfl ?_
      try simp only [go_sem]
      refine opt_i (row_m hv12004) ?_
      try simp only [go_sem]
      replace h := bindE h
      obtain ⟨v12006, hv12006, h⟩ := h
      refine idx_m hv12006 rfl ?_
      try simp only [go_sem]
      refine opt_i (row_m hv12006) ?_
      try simp only [go_sem]
      refine opt_i (getP_1 (sz := 1) (j := 0) (r := List.map i64D v12006) (row_m (f := (slD i64D)) hv12006) rfl (by rfl)) ?_
      try simp only [go_sem]
      refine cond_i (fun hb4 => ?_) (fun hb4 => ?_)
      · replace h := ifT (c := (decide (p25_1 < ((List.length v12006 : Nat) : Int)))) hb4 h
        try simp only [go_sem]
        refine seq_go ?_
        try simp only [go_sem]
        replace h := bindE h
        obtain ⟨v14004, hv14004, h⟩ := h
        refine idx_m hv14004 rfl ?_
        try simp only [go_sem]
        refine opt_i (row_m hv14004) ?_
        try simp only [go_sem]
        replace h := bindE h
        obtain ⟨v14006, hv14006, h⟩ := h
        refine idx_m hv14006 rfl ?_
        try simp only [go_sem]
        refine opt_i (row_m hv14006) ?_
        try simp only [go_sem]
        replace h := bindE h
        obtain ⟨v14009, hv14009, h⟩ := h
        refine opt_i (getP_1 (sz := 1) (j := 0) (r := List.map i64D v14006) (row_m (f := (slD i64D)) hv14006) rfl (by rfl)) ?_
        try simp only [go_sem]
        refine idx_m hv14009 rfl ?_
        try simp only [go_sem]
        refine opt_i (getP_1 (sz := 1) (j := 0) (r := List.map i64D v14006) (row_m (f := (slD i64D)) hv14006) rfl (by rfl)) ?_
        try simp only [go_sem]
        refine opt_i (row_m hv14009) ?_
        try simp only [go_sem]
        replace h := bindE h
        obtain ⟨v14011, hv14011, h⟩ := h
        refine call_i (s_l00Has_ok _ _ _ hv14011) ?_
        try simp only [go_sem]
        refine cond_i (fun hb5 => ?_) (fun hb5 => ?_)
        · replace h := ifT (c := (!v14011)) hb5 h
          try simp only [go_sem]
          replace h := bindE h
          obtain ⟨v15004, hv15004, h⟩ := h
          refine idx_m hv15004 rfl ?_
          try simp only [go_sem]
          refine opt_i (row_m hv15004) ?_
          try simp only [go_sem]
          replace h := bindE h
          obtain ⟨v15006, hv15006, h⟩ := h
          refine idx_m hv15006 rfl ?_
          try simp only [go_sem]
          refine opt_i (row_m hv15006) ?_
          try simp only [go_sem]
          replace h := bindE h
          obtain ⟨v15009, hv15009, h⟩ := h
          refine opt_i (getP_1 (sz := 1) (j := 0) (r := List.map i64D v15006) (row_m (f := (slD i64D)) hv15006) rfl (by rfl)) ?_
          try simp only [go_sem]
          refine idx_m hv15009 rfl ?_
          try simp only [go_sem]
          refine opt_i (getP_1 (sz := 1) (j := 0) (r := List.map i64D v15006) (row_m (f := (slD i64D)) hv15006) rfl (by rfl)) ?_
          try simp only [go_sem]
          refine opt_i (row_m hv15009) ?_
          try simp only [go_sem]
          replace h := bindE h
          obtain ⟨v15012, hv15012, h⟩ := h
          have hq_ := app_some hv15012
          obtain ⟨hv15012a, hv15012b⟩ := hq_
          refine and_i (by refine ⟨?_, ?_⟩ <;> (try simp only [List.length_map, List.length_append, List.length_cons, List.length_nil] at *) <;> (try unfold maxLen) <;> omega) ?_
          try simp only [go_sem]
          refine row_i (List.map i64D v15012) (by rw [← hv15012b]; simp only [List.map_append, List.map_cons, List.map_nil, List.nil_append, List.append_nil, go_sem, slD]) ?_
          try simp only [go_sem]
          refine seq_go ?_
          try simp only [go_sem]
          have hj := posF_to rfl rfl (ih2 a0 p13_0 p13_1 p23_1 v2001 v15012 (IntKind.i64.wrap (p25_1 + 1)) _ h)
          refine lp_to hj (.one ⟨_, .done _, [(1000025000, 1000025000), (1000025001, 1000025001), (1000025002, 240192)], [], ?_⟩)
          clear hj
          try simp only [go_sem]
        · replace h := ifF (c := (!v14011)) hb5 h
          try simp only [go_sem]
          refine seq_go ?_
          try simp only [go_sem]
          have hj := posF_to rfl rfl (ih2 a0 p13_0 p13_1 p23_1 v2001 p25_0 (IntKind.i64.wrap (p25_1 + 1)) _ h)
          refine lp_to hj (.one ⟨_, .done _, [(1000025000, 1000025000), (1000025001, 1000025001), (1000025002, 1000025002)], [], ?_⟩)
          clear hj
          try simp only [go_sem]
      · replace h := ifF (c := (decide (p25_1 < ((List.length v12006 : Nat) : Int)))) hb4 h
        try simp only [go_sem]
        refine seq_go ?_
        try simp only [go_sem]
        have hj := posF_to rfl rfl (ih1 a0 p13_0 p13_1 v2001 p25_0 (IntKind.i64.wrap (p23_1 + 1)) _ h)
        refine lp_to hj (.one ⟨_, .done _, [(1000023000, 1000025000), (1000023001, 1000025001), (1000023002, 1000025002)], [], ?_⟩)
        clear hj
        try simp only [go_sem]
theorem s_l37Recursive_l142_ok (n : Nat) : (∀ (a0 : Book) (v2001 : (List (List Int))) (p13_0 : List Int) (p13_1 : Int) (r : (List Int)), s_l37Recursive_l142 n a0 v2001 p13_0 p13_1 = some r → posF Try.prog Try.f125 [1, 1, 1, 0, 1, 0] (.ow (some 1) (List.map i64D r)) ⟨[(0, .rop [.ro (List.map Core.ds a0.defs)] 0), (3, .own 1000013000), (4, .own 1000013001), (5, .int .i64 p13_1)], [(1000013000, some ⟨List.map (slD i64D) v2001, some 1, 0⟩), (1000013001, some ⟨List.map i64D p13_0, some 1, 0⟩)], []⟩) := (s_l37Recursive_l142_all n).1
theorem s_l37Recursive_l168_ok (n : Nat) : (∀ (a0 : Book) (p13_0 : List Int) (p13_1 : Int) (v2001 : (List (List Int))) (p23_0 : List Int) (p23_1 : Int) (r : (List Int)), s_l37Recursive_l168 n a0 p13_0 p13_1 v2001 p23_0 p23_1 = some r → posF Try.prog Try.f125 [1, 1, 1, 0, 1, 0, 0, 1, 0, 0, 1, 0, 1, 0] (.ow (some 1) (List.map i64D r)) ⟨[(0, .rop [.ro (List.map Core.ds a0.defs)] 0), (3, .own 1000023000), (4, .own 1000023001), (5, .int .i64 p13_1), (6, .own 1000023002), (7, .int .i64 p23_1)], [(1000023000, some ⟨List.map (slD i64D) v2001, some 1, 0⟩), (1000023001, some ⟨List.map i64D p13_0, some 1, 0⟩), (1000023002, some ⟨List.map i64D p23_0, some 1, 0⟩)], []⟩) := (s_l37Recursive_l142_all n).2.1
theorem s_l37Recursive_l170_ok (n : Nat) : (∀ (a0 : Book) (p13_0 : List Int) (p13_1 : Int) (p23_1 : Int) (v2001 : (List (List Int))) (p25_0 : List Int) (p25_1 : Int) (r : (List Int)), s_l37Recursive_l170 n a0 p13_0 p13_1 p23_1 v2001 p25_0 p25_1 = some r → posF Try.prog Try.f125 [1, 1, 1, 0, 1, 0, 0, 1, 0, 0, 1, 0, 1, 0, 0, 1, 0, 0, 1, 0] (.ow (some 1) (List.map i64D r)) ⟨[(0, .rop [.ro (List.map Core.ds a0.defs)] 0), (3, .own 1000025000), (4, .own 1000025001), (5, .int .i64 p13_1), (6, .own 1000025002), (7, .int .i64 p23_1), (8, .int .i64 p25_1)], [(1000025000, some ⟨List.map (slD i64D) v2001, some 1, 0⟩), (1000025001, some ⟨List.map i64D p13_0, some 1, 0⟩), (1000025002, some ⟨List.map i64D p25_0, some 1, 0⟩)], []⟩) := (s_l37Recursive_l142_all n).2.2

theorem s_l37Recursive_ok (a0 : Book) (r : (List Int)) (h : s_l37Recursive a0 = some r) : AC Try.prog 125 [.rop (Book.avs a0) 0] (.ow (some 1) (List.map i64D r)) := by
  unfold s_l37Recursive at h
  refine ac_fn mixed Try.func125 rfl rfl rfl (by kernel_rfl) (by kernel_rfl) ?_
  try simp only [go_sem]
  replace h := bindE h
  obtain ⟨v2001, hv2001, h⟩ := h
  refine call_i (s_l35Uses_ok _ _ hv2001) ?_
  try simp only [go_sem]
  have hj := posF_to rfl rfl (s_l37Recursive_l142_ok fuel a0 v2001 [] 0 _ h)
  refine loop_to hj (.one ⟨_, .lit 4 2000000000 3000 0 1 [] _ _ (by (first | rfl | (simp only [go_sem]; rfl))) (by simp only [go_sem]; rfl) (by (first | rfl | (simp only [go_sem]; rfl))) (by (first | rfl | (simp only [go_sem]; rfl))) (by decide) (by decide) (by simp only [go_sem]) (.done _), [(1000013000, 32016), (1000013001, 2000000000)], [], ?_⟩)
  clear hj
  simp only [go_sem]
  all_goals try rfl
theorem s_RecursiveDefs_ok (a0 : Book) (r : (List Int) × Int) (h : s_RecursiveDefs a0 = some r) : AC Try.prog 59 [.agg (Book.avs a0)] (.tup [.ow (some 1) (List.map i64D r.1), .int .i64 r.2]) := by
  unfold s_RecursiveDefs at h
  refine ac_fn mixed Try.func59 rfl rfl rfl (by kernel_rfl) (by kernel_rfl) ?_
  try simp only [go_sem]
  replace h := bindE h
  obtain ⟨v2000, hv2000, h⟩ := h
  refine call_i (s_l06Book_ok _ _ hv2000) ?_
  try simp only [go_sem]
  refine cond_i (fun hb1 => ?_) (fun hb1 => ?_)
  · replace h := ifT (c := (!v2000)) hb1 h
    try simp only [go_sem]
    replace h := Option.some.inj h
    obtain rfl := h
    simp only [go_sem]
  · replace h := ifF (c := (!v2000)) hb1 h
    try simp only [go_sem]
    refine seq_go ?_
    try simp only [go_sem]
    replace h := bindE h
    obtain ⟨v4000, hv4000, h⟩ := h
    refine call_i (s_l37Recursive_ok _ _ hv4000) ?_
    try simp only [go_sem]
    replace h := Option.some.inj h
    obtain rfl := h
    simp only [go_sem]
theorem i_Book_isRecursive_1_ok (a0 : Int) (a1 : Book) (a2 : Int) (r : Bool) (h : i_Book_isRecursive_1 a0 a1 a2 = some r) : AC Try.prog 217 [.int .i64 a0, .rop (Book.avs a1) 0, .rop [.int .i64 a2] 0] (.bool r) := by
  unfold i_Book_isRecursive_1 at h
  refine ac_fn mixed Try.func217 rfl rfl rfl (by kernel_rfl) (by kernel_rfl) ?_
  try simp only [go_sem]
  refine draw_i [] .fin (by kernel_rfl) ?_
  try simp only [go_sem]
  replace h := bindE h
  obtain ⟨v2002, hv2002, h⟩ := h
  refine call_i (i_Book_usesIn_ok _ _ _ hv2002) ?_
  try simp only [go_sem]
  replace h := bindE h
  obtain ⟨v2004, hv2004, h⟩ := h
  refine call_i (g_Contains_sint64_ok _ _ _ hv2004) ?_
  try simp only [go_sem]
  refine seq_go ?_
  try simp only [go_sem]
  replace h := Option.some.inj h
  obtain rfl := h
  simp only [go_sem]
theorem i_Book_isRecursive_ok (a0 : Book) (a1 : Int) (r : Bool) (h : i_Book_isRecursive a0 a1 = some r) : AC Try.prog 126 [.agg (Book.avs a0), .int .i64 a1] (.bool r) := by
  unfold i_Book_isRecursive at h
  refine ac_fn mixed Try.func126 rfl rfl rfl (by kernel_rfl) (by kernel_rfl) ?_
  try simp only [go_sem]
  replace h := bindE h
  obtain ⟨v2003, hv2003, h⟩ := h
  refine call_i (i_Book_reachableFrom_ok _ _ _ hv2003) ?_
  try simp only [go_sem]
  replace h := bindE h
  obtain ⟨v2005, hv2005, h⟩ := h
  refine call_i (g_ContainsFunc_sint64_ok _ _ 217 [.rop [.ro (List.map Core.ds a0.defs)] 0, .rop [.int .i64 a1] 0] (Still.of (by simp only [pureAs, pureA, Bool.and_true, Bool.true_and, Bool.and_self])) (fun y0 q hq => i_Book_isRecursive_1_ok y0 _ _ q hq) _ hv2005) ?_
  try simp only [go_sem]
  replace h := Option.some.inj h
  obtain rfl := h
  simp only [go_sem]
theorem i_RecursiveDefs_l2_all (n : Nat) : (∀ (a0 : Book) (p1_0 : List Int) (p1_1 : Int) (r : (List Int) × Int), i_RecursiveDefs_l2 n a0 p1_0 p1_1 = some r → posF Try.prog Try.f60 [1, 1, 1, 0, 1, 0] (.tup [.ow (some 1) (List.map i64D r.1), .int .i64 r.2]) ⟨[(1, .box 1000001500 0), (4, .own 1000001000), (11, .int .i64 ((List.length a0.defs : Nat) : Int)), (12, .int .i64 p1_1)], [(1000001000, some ⟨List.map i64D p1_0, some 1, 0⟩)], [(1000001500, some [.ro (List.map Core.ds a0.defs)])]⟩) := by
  induction n with
  | zero => exact ((fun _ _ _ _ h => by rw [i_RecursiveDefs_l2] at h; cases h))
  | succ n ih =>
    have ih0 := ih
    · intro a0 p1_0 p1_1 r h
      rw [i_RecursiveDefs_l2] at h
      refine posF_of rfl rfl ?_
      try simp only [go_sem]
      refine loop_i ?_
      try simp only [go_sem]
      refine cond_i (fun hb2 => ?_) (fun hb2 => ?_)
      · replace h := ifT (c := (decide (p1_1 < ((List.length a0.defs : Nat) : Int)))) hb2 h
        try simp only [go_sem]
        refine seq_go ?_
        try simp only [go_sem]
        replace h := bindE h
        obtain ⟨v8002, hv8002, h⟩ := h
        refine call_i (i_Book_isRecursive_ok _ _ _ hv8002) ?_
        try simp only [go_sem]
        refine cond_i (fun hb3 => ?_) (fun hb3 => ?_)
        · replace h := ifT (c := v8002) hb3 h
          try simp only [go_sem]
          replace h := bindE h
          obtain ⟨v9003, hv9003, h⟩ := h
          have hq_ := app_some hv9003
          obtain ⟨hv9003a, hv9003b⟩ := hq_
          refine and_i (by refine ⟨?_, ?_⟩ <;> (try simp only [List.length_map, List.length_append, List.length_cons, List.length_nil] at *) <;> (try unfold maxLen) <;> omega) ?_
          try simp only [go_sem]
          refine row_i (List.map i64D v9003) (by rw [← hv9003b]; simp only [List.map_append, List.map_cons, List.map_nil, List.nil_append, List.append_nil, go_sem, slD]) ?_
          try simp only [go_sem]
          refine seq_go ?_
          try simp only [go_sem]
          have hj := posF_to rfl rfl (ih0 a0 v9003 (IntKind.i64.wrap (p1_1 + 1)) _ h)
          refine lp_to hj (.one ⟨_, .done _, [(1000001000, 144048)], [(1000001500, 1000001500)], ?_⟩)
          clear hj
          try simp only [go_sem]
        · replace h := ifF (c := v8002) hb3 h
          try simp only [go_sem]
          refine seq_go ?_
          try simp only [go_sem]
          have hj := posF_to rfl rfl (ih0 a0 p1_0 (IntKind.i64.wrap (p1_1 + 1)) _ h)
          refine lp_to hj (.one ⟨_, .done _, [(1000001000, 1000001000)], [(1000001500, 1000001500)], ?_⟩)
          clear hj
          try simp only [go_sem]
      · replace h := ifF (c := (decide (p1_1 < ((List.length a0.defs : Nat) : Int)))) hb2 h
        try simp only [go_sem]
        refine seq_go ?_
        try simp only [go_sem]
        replace h := Option.some.inj h
        obtain rfl := h
        simp only [go_sem]
theorem i_RecursiveDefs_l2_ok (n : Nat) : (∀ (a0 : Book) (p1_0 : List Int) (p1_1 : Int) (r : (List Int) × Int), i_RecursiveDefs_l2 n a0 p1_0 p1_1 = some r → posF Try.prog Try.f60 [1, 1, 1, 0, 1, 0] (.tup [.ow (some 1) (List.map i64D r.1), .int .i64 r.2]) ⟨[(1, .box 1000001500 0), (4, .own 1000001000), (11, .int .i64 ((List.length a0.defs : Nat) : Int)), (12, .int .i64 p1_1)], [(1000001000, some ⟨List.map i64D p1_0, some 1, 0⟩)], [(1000001500, some [.ro (List.map Core.ds a0.defs)])]⟩) := (i_RecursiveDefs_l2_all n)

theorem i_RecursiveDefs_ok (a0 : Book) (r : (List Int) × Int) (h : i_RecursiveDefs a0 = some r) : AC Try.prog 60 [.agg (Book.avs a0)] (.tup [.ow (some 1) (List.map i64D r.1), .int .i64 r.2]) := by
  unfold i_RecursiveDefs at h
  refine ac_fn mixed Try.func60 rfl rfl rfl (by kernel_rfl) (by kernel_rfl) ?_
  try simp only [go_sem]
  replace h := bindE h
  obtain ⟨v2001, hv2001, h⟩ := h
  refine call_i (i_ValidBook_ok _ _ hv2001) ?_
  try simp only [go_sem]
  refine cond_i (fun hb1 => ?_) (fun hb1 => ?_)
  · replace h := ifT (c := (!v2001)) hb1 h
    try simp only [go_sem]
    replace h := Option.some.inj h
    obtain rfl := h
    simp only [go_sem]
  · replace h := ifF (c := (!v2001)) hb1 h
    try simp only [go_sem]
    refine seq_go ?_
    try simp only [go_sem]
    have hj := posF_to rfl rfl (i_RecursiveDefs_l2_ok fuel a0 [] 0 _ h)
    refine loop_to hj (.one ⟨_, .slot 4 2000000000 (some 1) (by simp only [go_sem]) (by simp only [go_sem]) (.done _), [(1000001000, 2000000000)], [(1000001500, 1000)], ?_⟩)
    clear hj
    simp only [go_sem]
    all_goals try rfl
theorem l_FnExactRecursiveDefs_j3_ok (v18002 : Int × (List Int)) (p2_0 : Bool) (r : Bool) (h : l_FnExactRecursiveDefs_j3 v18002 p2_0 = some r) : posF Try.prog Try.f12 [1, 1, 1, 1, 1, 1, 1, 1, 1, 1, 1, 1, 1, 1, 1, 1, 1, 1, 1, 0, 1] (.bool r) ⟨[(7, .own 1000002000), (10, .int .i64 v18002.1), (87, .bool p2_0)], [(1000002000, some ⟨List.map i64D v18002.2, some 1, 0⟩)], []⟩ := by
  unfold l_FnExactRecursiveDefs_j3 at h
  refine posF_of rfl rfl ?_
  try simp only [go_sem]
  refine cond_i (fun hb11 => ?_) (fun hb11 => ?_)
  · replace h := ifT (c := p2_0) hb11 h
    try simp only [go_sem]
    replace h := Option.some.inj h
    obtain rfl := h
    simp only [go_sem]
  · replace h := ifF (c := p2_0) hb11 h
    try simp only [go_sem]
    refine seq_go ?_
    try simp only [go_sem]
    replace h := bindE h
    obtain ⟨v29002, hv29002, h⟩ := h
    refine call_i (l_heldInt64S_ok _ _ _ hv29002) ?_
    try simp only [go_sem]
    refine cond_i (fun hb12 => ?_) (fun hb12 => ?_)
    · replace h := ifT (c := (decide (v29002 < 0))) hb12 h
      try simp only [go_sem]
      replace h := Option.some.inj h
      obtain rfl := h
      simp only [go_sem]
    · replace h := ifF (c := (decide (v29002 < 0))) hb12 h
      try simp only [go_sem]
      refine seq_go ?_
      try simp only [go_sem]
      refine cond_i (fun hb13 => ?_) (fun hb13 => ?_)
      · replace h := ifT (c := (!decide (v29002 = v18002.1))) hb13 h
        try simp only [go_sem]
        replace h := Option.some.inj h
        obtain rfl := h
        simp only [go_sem]
      · replace h := ifF (c := (!decide (v29002 = v18002.1))) hb13 h
        try simp only [go_sem]
        refine seq_go ?_
        try simp only [go_sem]
        replace h := Option.some.inj h
        obtain rfl := h
        simp only [go_sem]
theorem l_FnExactRecursiveDefs_j2_ok (a0 : Book) (v6002 : (List Int) × Int) (v8001 : (List Int) × Int) (p1_0 : Bool) (r : Bool) (h : l_FnExactRecursiveDefs_j2 a0 v6002 v8001 p1_0 = some r) : posF Try.prog Try.f12 [1, 1, 1, 1, 1, 1, 1, 1, 1, 1, 1, 0, 1] (.bool r) ⟨[(1, .box 1000001500 0), (4, .own 1000001000), (5, .int .i64 v6002.2), (7, .own 1000001001), (61, .bool p1_0)], [(1000001000, some ⟨List.map i64D v6002.1, some 1, 0⟩), (1000001001, some ⟨List.map i64D v8001.1, some 1, 0⟩)], [(1000001500, some [.ro (List.map Core.ds a0.defs)])]⟩ := by
  unfold l_FnExactRecursiveDefs_j2 at h
  refine posF_of rfl rfl ?_
  try simp only [go_sem]
  refine cond_i (fun hb7 => ?_) (fun hb7 => ?_)
  · replace h := ifT (c := p1_0) hb7 h
    try simp only [go_sem]
    replace h := Option.some.inj h
    obtain rfl := h
    simp only [go_sem]
  · replace h := ifF (c := p1_0) hb7 h
    try simp only [go_sem]
    refine seq_go ?_
    try simp only [go_sem]
    replace h := bindE h
    obtain ⟨v18002, hv18002, h⟩ := h
    refine call_g ⟨[], [(1, 1000001001)], [], [], [], true⟩ (by kernel_rfl) (l_markInt64S_ok _ _ (some 1) _ hv18002) (by kernel_rfl) ?_
    try simp only [go_sem]
    replace h := bindE h
    obtain ⟨v20002, hv20002, h⟩ := h
    refine call_i (l_heldInt64S_ok _ _ _ hv20002) ?_
    try simp only [go_sem]
    refine cond_i (fun hb8 => ?_) (fun hb8 => ?_)
    · replace h := ifT (c := (decide (v20002 < 0))) hb8 h
      try simp only [go_sem]
      replace h := Option.some.inj h
      obtain rfl := h
      simp only [go_sem]
    · replace h := ifF (c := (decide (v20002 < 0))) hb8 h
      try simp only [go_sem]
      refine seq_go ?_
      try simp only [go_sem]
      refine cond_i (fun hb9 => ?_) (fun hb9 => ?_)
      · replace h := ifT (c := (!decide (v20002 = v18002.1))) hb9 h
        try simp only [go_sem]
        replace h := Option.some.inj h
        obtain rfl := h
        simp only [go_sem]
      · replace h := ifF (c := (!decide (v20002 = v18002.1))) hb9 h
        try simp only [go_sem]
        refine seq_go ?_
        try simp only [go_sem]
        replace h := bindE h
        obtain ⟨v25001, hv25001, h⟩ := h
        refine call_i (l_toBook_ok _ _ hv25001) ?_
        try simp only [go_sem]
        replace h := bindE h
        obtain ⟨v25002, hv25002, h⟩ := h
        refine call_i (i_RecursiveDefs_ok _ _ hv25002) ?_
        try simp only [go_sem]
        replace h := bindE h
        obtain ⟨v26002, hv26002, h⟩ := h
        refine call_i (l_eqInt64S_ok _ _ _ hv26002) ?_
        try simp only [go_sem]
        refine cond_i (fun hb10 => ?_) (fun hb10 => ?_)
        · replace h := ifT (c := (!v26002)) hb10 h
          try simp only [go_sem]
          have hj := posF_to rfl rfl (l_FnExactRecursiveDefs_j3_ok v18002 true _ h)
          refine seq_to hj (.one ⟨_, .done _, [(1000002000, 1000001001)], [], ?_⟩)
          clear hj
          try simp only [go_sem]
        · replace h := ifF (c := (!v26002)) hb10 h
          try simp only [go_sem]
          have hj := posF_to rfl rfl (l_FnExactRecursiveDefs_j3_ok v18002 (!decide (v25002.2 = v6002.2)) _ h)
          refine seq_to hj (.one ⟨_, .done _, [(1000002000, 1000001001)], [], ?_⟩)
          clear hj
          try simp only [go_sem]
theorem l_FnExactRecursiveDefs_j1_ok (a0 : Book) (v6002 : (List Int) × Int) (v7001 : Book) (v8001 : (List Int) × Int) (p0_0 : Bool) (r : Bool) (h : l_FnExactRecursiveDefs_j1 a0 v6002 v7001 v8001 p0_0 = some r) : posF Try.prog Try.f12 [1, 1, 1, 1, 1, 1, 1, 0, 1] (.bool r) ⟨[(1, .box 1000000500 0), (4, .own 1000000000), (5, .int .i64 v6002.2), (6, .box 1000000501 0), (7, .own 1000000002), (8, .int .i64 v8001.2), (40, .bool p0_0)], [(1000000000, some ⟨List.map i64D v6002.1, some 1, 0⟩), (1000000001, some ⟨List.map Core.ds v7001.defs, some 4, 0⟩), (1000000002, some ⟨List.map i64D v8001.1, some 1, 0⟩)], [(1000000500, some [.ro (List.map Core.ds a0.defs)]), (1000000501, some [.own 1000000001])]⟩ := by
  unfold l_FnExactRecursiveDefs_j1 at h
  refine posF_of rfl rfl ?_
  try simp only [go_sem]
  refine cond_i (fun hb3 => ?_) (fun hb3 => ?_)
  · replace h := ifT (c := p0_0) hb3 h
    try simp only [go_sem]
    replace h := Option.some.inj h
    obtain rfl := h
    simp only [go_sem]
  · replace h := ifF (c := p0_0) hb3 h
    try simp only [go_sem]
    refine seq_go ?_
    try simp only [go_sem]
    refine draw_i [] .fin (by kernel_rfl) ?_
    try simp only [go_sem]
    replace h := bindE h
    obtain ⟨v11002, hv11002, h⟩ := h
    refine call_i (l_toBook_ok _ _ hv11002) ?_
    try simp only [go_sem]
    replace h := bindE h
    obtain ⟨v11003, hv11003, h⟩ := h
    refine call_i (l_eqBook_ok _ _ _ hv11003) ?_
    try simp only [go_sem]
    refine seq_go ?_
    try simp only [go_sem]
    refine cond_i (fun hb4 => ?_) (fun hb4 => ?_)
    · replace h := ifT (c := (!v11003)) hb4 h
      try simp only [go_sem]
      replace h := Option.some.inj h
      obtain rfl := h
      simp only [go_sem]
    · replace h := ifF (c := (!v11003)) hb4 h
      try simp only [go_sem]
      refine seq_go ?_
      try simp only [go_sem]
      replace h := bindE h
      obtain ⟨v14002, hv14002, h⟩ := h
      refine call_g ⟨[], [(1, 1000000001)], [], [], [], true⟩ (by kernel_rfl) (l_markBook_ok _ _ (some 4) _ hv14002) (by kernel_rfl) ?_
      try simp only [go_sem]
      refine cond_i (fun hb5 => ?_) (fun hb5 => ?_)
      · replace h := ifT (c := (decide (v14002.1 < 0))) hb5 h
        try simp only [go_sem]
        have hj := posF_to rfl rfl (l_FnExactRecursiveDefs_j2_ok a0 v6002 v8001 true _ h)
        refine seq_to hj (.one ⟨_, .done _, [(1000001000, 1000000000), (1000001001, 1000000002)], [(1000001500, 1000000500)], ?_⟩)
        clear hj
        try simp only [go_sem]
      · replace h := ifF (c := (decide (v14002.1 < 0))) hb5 h
        try simp only [go_sem]
        replace h := bindE h
        obtain ⟨v15005, hv15005, h⟩ := h
        refine call_i (l_eqInt64S_ok _ _ _ hv15005) ?_
        try simp only [go_sem]
        refine cond_i (fun hb6 => ?_) (fun hb6 => ?_)
        · replace h := ifT (c := (!v15005)) hb6 h
          try simp only [go_sem]
          have hj := posF_to rfl rfl (l_FnExactRecursiveDefs_j2_ok a0 v6002 v8001 true _ h)
          refine seq_to hj (.one ⟨_, .done _, [(1000001000, 1000000000), (1000001001, 1000000002)], [(1000001500, 1000000500)], ?_⟩)
          clear hj
          try simp only [go_sem]
        · replace h := ifF (c := (!v15005)) hb6 h
          try simp only [go_sem]
          have hj := posF_to rfl rfl (l_FnExactRecursiveDefs_j2_ok a0 v6002 v8001 (!decide (v8001.2 = v6002.2)) _ h)
          refine seq_to hj (.one ⟨_, .done _, [(1000001000, 1000000000), (1000001001, 1000000002)], [(1000001500, 1000000500)], ?_⟩)
          clear hj
          try simp only [go_sem]
theorem l_FnExactRecursiveDefs_ok (a0 : Book) (r : Bool) (h : l_FnExactRecursiveDefs a0 = some r) : AC Try.prog 12 [.agg (Book.avs a0)] (.bool r) := by
  unfold l_FnExactRecursiveDefs at h
  refine ac_fn mixed Try.func12 rfl rfl rfl (by kernel_rfl) (by kernel_rfl) ?_
  try simp only [go_sem]
  replace h := bindE h
  obtain ⟨v3002, hv3002, h⟩ := h
  refine call_i (l_szBook_ok _ _ _ hv3002) ?_
  try simp only [go_sem]
  refine cond_i (fun hb1 => ?_) (fun hb1 => ?_)
  · replace h := ifT (c := (decide (v3002 < 0))) hb1 h
    try simp only [go_sem]
    replace h := Option.some.inj h
    obtain rfl := h
    simp only [go_sem]
  · replace h := ifF (c := (decide (v3002 < 0))) hb1 h
    try simp only [go_sem]
    refine seq_go ?_
    try simp only [go_sem]
    replace h := bindE h
    obtain ⟨v6001, hv6001, h⟩ := h
    refine call_i (l_toBook_ok _ _ hv6001) ?_
    try simp only [go_sem]
    replace h := bindE h
    obtain ⟨v6002, hv6002, h⟩ := h
    refine call_i (s_RecursiveDefs_ok _ _ hv6002) ?_
    try simp only [go_sem]
    replace h := bindE h
    obtain ⟨v7001, hv7001, h⟩ := h
    refine call_i (l_toBook_ok _ _ hv7001) ?_
    try simp only [go_sem]
    replace h := bindE h
    obtain ⟨v8001, hv8001, h⟩ := h
    refine call_i (i_RecursiveDefs_ok _ _ hv8001) ?_
    try simp only [go_sem]
    replace h := bindE h
    obtain ⟨v9002, hv9002, h⟩ := h
    refine call_i (l_eqInt64S_ok _ _ _ hv9002) ?_
    try simp only [go_sem]
    refine cond_i (fun hb2 => ?_) (fun hb2 => ?_)
    · replace h := ifT (c := (!v9002)) hb2 h
      try simp only [go_sem]
      have hj := posF_to rfl rfl (l_FnExactRecursiveDefs_j1_ok a0 v6002 v7001 v8001 true _ h)
      refine seq_to hj (.one ⟨_, .done _, [(1000000000, 96032), (1000000001, 112016), (1000000002, 128016)], [(1000000500, 1000), (1000000501, 7002)], ?_⟩)
      clear hj
      try simp only [go_sem]
    · replace h := ifF (c := (!v9002)) hb2 h
      try simp only [go_sem]
      have hj := posF_to rfl rfl (l_FnExactRecursiveDefs_j1_ok a0 v6002 v7001 v8001 (!decide (v8001.2 = v6002.2)) _ h)
      refine seq_to hj (.one ⟨_, .done _, [(1000000000, 96032), (1000000001, 112016), (1000000002, 128016)], [(1000000500, 1000), (1000000501, 7002)], ?_⟩)
      clear hj
      try simp only [go_sem]
end Go.Proofs.Ytffokcfdkkikmaa.Ab
