/-
  What definitions of a book reach: the program's way. No program is in sight.
-/
import Derived.Test.YtffokcfdkkikmaaPlNames
import Derived.Test.YtffokcfdkkikmaaPlSort
import Derived.Test.YtffokcfdkkikmaaModY
namespace Go.Proofs.Ytffokcfdkkikmaa.Ab
set_option linter.unusedVariables false
set_option linter.unusedSimpArgs false
open Go.RowKit

/-! ### Is it there, and where -/
def idxI : List Int → Int → Option Nat
  | [], _ => none
  | y :: l, x => if x = y then some 0 else (idxI l x).map (· + 1)
def idxZ (l : List Int) (x : Int) : Int := match idxI l x with | some i => (i : Int) | none => -1
theorem idxI_mem {x : Int} : ∀ {l : List Int}, x ∈ l ↔ ∃ i, idxI l x = some i
  | [] => by simp [idxI]
  | y :: l => by
    rw [idxI, List.mem_cons, idxI_mem (l := l)]
    by_cases h : x = y
    · simp [h]
    · simp only [h, false_or, if_false, Option.map_eq_some_iff]
      exact ⟨fun ⟨i, hi⟩ => ⟨i + 1, i, hi, rfl⟩, fun ⟨_, i, hi, _⟩ => ⟨i, hi⟩⟩
theorem idxI_get {x : Int} : ∀ {l : List Int} {i : Nat}, idxI l x = some i → l[i]? = some x
  | y :: l, i, h => by
    rw [idxI] at h
    split at h
    · rename_i hxy
      cases h; subst hxy; rfl
    · cases hi : idxI l x with
      | none => rw [hi] at h; cases h
      | some j =>
        rw [hi] at h
        cases h
        simpa using idxI_get hi
theorem has_loop (l : List Int) (x : Int) (hl : l.length ≤ Big) : ∀ (post pre : List Int) (n : Nat), l = pre ++ post → post.length + 1 ≤ n → s_l00Has_l1 n l x ((List.length pre : Nat) : Int) = some (decide (x ∈ post)) := by
  intro post
  induction post with
  | nil =>
    intro pre n h hn
    obtain ⟨n, rfl⟩ : ∃ m, n = m + 1 := ⟨n - 1, by omega⟩
    rw [s_l00Has_l1, ge_app h]; simp
  | cons y post ih =>
    intro pre n h hn
    rw [List.length_cons] at hn
    obtain ⟨n, rfl⟩ : ∃ m, n = m + 1 := ⟨n - 1, by omega⟩
    rw [s_l00Has_l1, if_pos (lt_app h), at_app h, bind_some', wrap_app h hl, ih (pre ++ [y]) n (next_app h) (by omega)]
    by_cases e : y = x
    · simp [e]
    · rw [if_neg (by simpa using e)]
      have : ¬ x = y := fun h => e h.symm
      simp [this]
theorem has_eq (l : List Int) (x : Int) (hl : l.length ≤ Big) : s_l00Has l x = some (decide (x ∈ l)) := by
  unfold s_l00Has
  exact has_loop l x hl l [] fuel (by simp) (by rw [fuel_eq]; unfold Big at hl; omega)
theorem index_loop (l : List Int) (x : Int) (hl : l.length ≤ Big) : ∀ (post pre : List Int) (n : Nat), l = pre ++ post → post.length + 1 ≤ n → g_Index_sint64_l1 n l x ((List.length pre : Nat) : Int) = some (match idxI post x with | some i => ((pre.length + i : Nat) : Int) | none => -1) := by
  intro post
  induction post with
  | nil =>
    intro pre n h hn
    obtain ⟨n, rfl⟩ : ∃ m, n = m + 1 := ⟨n - 1, by omega⟩
    rw [g_Index_sint64_l1, ge_app h]; rfl
  | cons y post ih =>
    intro pre n h hn
    rw [List.length_cons] at hn
    obtain ⟨n, rfl⟩ : ∃ m, n = m + 1 := ⟨n - 1, by omega⟩
    rw [g_Index_sint64_l1, if_pos (lt_app h), at_app h, bind_some', wrap_app h hl, ih (pre ++ [y]) n (next_app h) (by omega), idxI]
    by_cases e : x = y
    · simp [e]
    · rw [if_neg (by simpa using e), if_neg e]
      cases idxI post x with
      | none => rfl
      | some i =>
        have e : (pre ++ [y]).length + i = pre.length + (i + 1) := by simp; omega
        show some (((pre ++ [y]).length + i : Nat) : Int) = some ((pre.length + (i + 1) : Nat) : Int)
        rw [e]
theorem index_eq (l : List Int) (x : Int) (hl : l.length ≤ Big) : g_Index_sint64 l x = some (idxZ l x) := by
  unfold g_Index_sint64 idxZ
  have := index_loop l x hl l [] fuel (by simp) (by rw [fuel_eq]; unfold Big at hl; omega)
  rw [show ((List.length ([] : List Int) : Nat) : Int) = 0 from rfl] at this
  rw [this]
  cases idxI l x <;> simp
theorem contains_eq (l : List Int) (x : Int) (hl : l.length ≤ Big) : g_Contains_sint64 l x = some (decide (x ∈ l)) := by
  unfold g_Contains_sint64
  rw [index_eq l x hl, bind_some']
  congr 1
  rw [Bool.eq_iff_iff, decide_eq_true_iff, decide_eq_true_iff, idxI_mem]
  unfold idxZ
  cases h : idxI l x with
  | none => simp
  | some i => simp
/-! ### What a definition names -/
def useOf (b : Book) (x : Int) : List Int := match at? b.defs x with | some c => putIs [] c.nm | none => []
theorem at_range {α : Type} {l : List α} {x : Int} (h : 0 ≤ x ∧ x < (l.length : Int)) : ∃ c, at? l x = some c := by
  unfold at?
  rw [if_pos h.1]
  have : x.toNat < l.length := by omega
  exact ⟨l[x.toNat], List.getElem?_eq_getElem this⟩
theorem nm_range (k : Nat) : ∀ c : Core, c.wf = true → c.anyC (names k) = false → ∀ y ∈ c.nm, 0 ≤ y ∧ y < (k : Int) := by
  refine Core.ind fun c ih hw hn y hy => ?_
  rw [Core.wf_eq, Bool.and_eq_true] at hw
  rw [Core.anyC_eq, Bool.or_eq_false_iff, Core.anysC_any] at hn
  obtain ⟨hno, hks⟩ := hw
  have hn1 := hn.1
  unfold names at hn1
  rw [Bool.or_eq_false_iff] at hn1
  have hno' := hno
  unfold nodeOk at hno'
  simp only [Bool.and_eq_true] at hno'
  rw [Core.nm_eq] at hy
  rcases List.mem_append.1 hy with hy | hy
  · rcases List.mem_append.1 hy with hy | hy
    · split at hy
      · rename_i h11
        rw [List.mem_singleton] at hy
        subst hy
        have hv := hno'.1.2
        unfold valOk at hv
        rw [if_neg (by omega), if_neg (by omega), if_neg (by omega), if_neg (by omega), if_pos h11, decide_eq_true_iff] at hv
        have := hn1.1
        rw [Bool.and_eq_false_iff] at this
        rcases this with h | h
        · simp [h11] at h
        · rw [decide_eq_false_iff_not] at h; omega
      · cases hy
    · have h1 := List.all_eq_true.1 hno'.2 y hy
      unfold inBook at h1
      rw [decide_eq_true_iff] at h1
      have h2 := List.any_eq_false.1 hn1.2 y hy
      rw [decide_eq_true_iff] at h2
      omega
  · have key : ∀ l : List Core, (∀ x ∈ l, x ∈ c.kids) → y ∈ Core.nms l → 0 ≤ y ∧ y < (k : Int) := by
      intro l
      induction l with
      | nil => intro _ h; simp [Core.nms] at h
      | cons x l ihl =>
        intro hs h
        rw [Core.nms] at h
        rcases List.mem_append.1 h with h | h
        · have hx := hs x (by simp)
          exact ih x hx (wfs_mem hx hks) (by simpa using List.any_eq_false.1 hn.2 x hx) y h
        · exact ihl (fun z hz => hs z (by simp [hz])) h
    exact key c.kids (fun x hx => hx) hy
theorem def_ok {b : Book} (hv : b.valid = true) : b.defs.length ≤ 24 ∧ ∀ c ∈ b.defs, c.closed = true ∧ c.anyC (names b.defs.length) = false := by
  unfold Book.valid at hv
  rw [Bool.and_eq_true, List.all_eq_true] at hv
  refine ⟨by have := hv.1; simp at this; omega, fun c hc => ?_⟩
  have := hv.2 c hc
  unfold defOk at this
  rw [Bool.and_eq_true] at this
  exact ⟨this.1, by simpa using this.2⟩
theorem use_range {b : Book} (hv : b.valid = true) (x : Int) (hx : 0 ≤ x ∧ x < (b.defs.length : Int)) : ∀ y ∈ useOf b x, 0 ≤ y ∧ y < (b.defs.length : Int) := by
  intro y hy
  obtain ⟨c, hc⟩ := at_range hx
  unfold useOf at hy
  rw [hc] at hy
  have hm := putIs_mem.1 hy
  have hcm : c ∈ b.defs := List.mem_of_getElem? (at_some hc).2
  obtain ⟨h1, h2⟩ := (def_ok hv).2 c hcm
  exact nm_range _ c (closed_wf h1) h2 y (by simpa using hm)
theorem use_len {b : Book} (hv : b.valid = true) (x : Int) (hx : 0 ≤ x ∧ x < (b.defs.length : Int)) : (useOf b x).length ≤ 24 := by
  have h1 := use_range hv x hx
  have h2 := (def_ok hv).1
  have h3 : Rise (useOf b x) := by
    unfold useOf
    split
    · exact putIs_rise (by simp)
    · simp
  exact Nat.le_trans (nodup_len _ _ (rise_nodup h3) h1) h2
theorem usesIn_use {b : Book} (hb : b.sz ≤ 1048576) (x : Int) (hx : 0 ≤ x ∧ x < (b.defs.length : Int)) : i_Book_usesIn b x = some (useOf b x) := by
  obtain ⟨c, hc⟩ := at_range hx
  rw [iUsesIn_eq b hb x c hc]
  unfold useOf
  rw [hc]
theorem uses_at {b : Book} (x : Int) (hx : 0 ≤ x ∧ x < (b.defs.length : Int)) : at? (uses b) x = some (useOf b x) := by
  obtain ⟨c, hc⟩ := at_range hx
  unfold useOf
  rw [hc]
  unfold uses at? at *
  rw [if_pos hx.1] at hc ⊢
  rw [List.getElem?_map, hc]; rfl
/-! ### A list that grows -/
theorem r14_eq (b : Book) (i : Int) (us : List Int) (hu : us.length ≤ Big) : ∀ (post pre out : List Int) (n : Nat), us = pre ++ post → out.length + post.length ≤ Big →
    i_Book_reachableFrom_l14 (n + (post.length + 1)) b i us out ((List.length pre : Nat) : Int) = i_Book_reachableFrom_l12 n b (addAll out post) (IntKind.i64.wrap (i + 1)) := by
  intro post
  induction post with
  | nil =>
    intro pre out n h ho
    rw [show n + (([] : List Int).length + 1) = n + 1 from rfl, i_Book_reachableFrom_l14, ge_app h]; rfl
  | cons y post ih =>
    intro pre out n h ho
    rw [List.length_cons] at ho
    rw [show n + ((y :: post).length + 1) = (n + (post.length + 1)) + 1 from by rw [List.length_cons]; omega, i_Book_reachableFrom_l14, if_pos (lt_app h), at_app h, bind_some', contains_eq _ _ (by omega), bind_some', wrap_app h hu]
    have e : addAll out (y :: post) = addAll (addNew out y) post := rfl
    rw [e]
    unfold addNew
    by_cases hy : y ∈ out
    · rw [if_neg (by simpa using hy), if_pos hy, ih (pre ++ [y]) out n (next_app h) (by omega)]
    · rw [if_pos (by simpa using hy), if_neg hy, app_ok (by simp; omega), bind_some', ih (pre ++ [y]) _ n (next_app h) (by simp; omega)]
theorem iReach_eq {b : Book} (hb : b.sz ≤ 1048576) (hv : b.valid = true) (start : List Int) (hn : start.Nodup) (hr : ∀ x ∈ start, 0 ≤ x ∧ x < (b.defs.length : Int)) :
    ∃ out, i_Book_reachableFrom b start = some out ∧ Rise out ∧ (∀ x ∈ out, 0 ≤ x ∧ x < (b.defs.length : Int)) ∧ Reach (useOf b) start out := by
  have hk := (def_ok hv).1
  obtain ⟨out, h1, h2, h3, h4⟩ := bfs (F := fun n l i => i_Book_reachableFrom_l12 n b l i) (R := fun l => Option.bind (g_Sort_sint64 l) fun v => Option.bind (g_Compact_sint64 v) fun w => some w) (useOf b) b.defs.length 26 (use_range hv)
    (fun n out pre post x ho hx hlen => by
      have hul := use_len hv x hx
      refine ⟨n + (24 - (useOf b x).length), by omega, ?_⟩
      show i_Book_reachableFrom_l12 (n + 26) b out _ = i_Book_reachableFrom_l12 _ b _ _
      rw [show n + 26 = (n + (24 - (useOf b x).length) + ((useOf b x).length + 1)) + 1 from by omega, i_Book_reachableFrom_l12, if_pos (lt_app ho), at_app ho, bind_some', usesIn_use hb x hx, bind_some',
        show (0 : Int) = ((List.length ([] : List Int) : Nat) : Int) from rfl, r14_eq b _ (useOf b x) (by unfold Big; omega) (useOf b x) [] out _ (by simp) (by unfold Big; omega), wrap_app ho (by unfold Big; omega)]
      simp)
    (fun n out => by
      show i_Book_reachableFrom_l12 (n + 1) b out _ = _
      rw [i_Book_reachableFrom_l12, if_neg (by simp)]) start hn hr fuel (by rw [fuel_eq]; omega)
  have hlen := nodup_len _ _ h2 h3
  refine ⟨putIs [] out, ?_, putIs_rise (by simp), fun x hx => h3 x (by simpa using putIs_mem.1 hx), h4.congr fun x => by rw [putIs_mem]; simp⟩
  have hsl := nodup_len _ _ hn hr
  unfold i_Book_reachableFrom g_Clone_sint64
  rw [app_ok (by simp [Big]; omega), bind_some', bind_some', List.nil_append]
  refine h1.trans ?_
  show Option.bind (g_Sort_sint64 out) _ = _
  rw [g_Sort_sint64, if_pos (by omega), bind_some', g_Compact_sint64, bind_some', compact_sort]
end Go.Proofs.Ytffokcfdkkikmaa.Ab
