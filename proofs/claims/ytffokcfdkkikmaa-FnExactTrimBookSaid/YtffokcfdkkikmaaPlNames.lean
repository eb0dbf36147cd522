/-
  The definitions that a core term names, on both sides. No program is in sight.
-/
import Derived.Test.YtffokcfdkkikmaaPlSort
import Derived.Test.YtffokcfdkkikmaaPlC
import Derived.Test.YtffokcfdkkikmaaPlBook
import Derived.Test.YtffokcfdkkikmaaPlG
import Derived.Test.YtffokcfdkkikmaaModW
namespace Go.Proofs.Ytffokcfdkkikmaa.Ab
set_option linter.unusedVariables false
set_option linter.unusedSimpArgs false
open Go.RowKit

mutual
def Core.nm : Core → List Int
  | ⟨k, v, d, ks⟩ => (if k = 11 then [v] else []) ++ d ++ Core.nms ks
def Core.nms : List Core → List Int
  | [] => []
  | c :: cs => Core.nm c ++ Core.nms cs
end
theorem Core.nm_eq (c : Core) : c.nm = (if c.kind = 11 then [c.value] else []) ++ c.data ++ Core.nms c.kids := by cases c; rw [Core.nm]
mutual
theorem Core.nm_len : ∀ c : Core, c.nm.length ≤ c.nodes + c.sz
  | ⟨k, v, d, ks⟩ => by
    have := Core.nms_len ks
    rw [Core.nm, Core.nodes, Core.sz]
    simp only [List.length_append]
    split <;> simp <;> omega
theorem Core.nms_len : ∀ l : List Core, (Core.nms l).length ≤ Core.nodess l + Core.szs l
  | [] => by simp [Core.nms]
  | c :: cs => by
    have := Core.nm_len c
    have := Core.nms_len cs
    rw [Core.nms, Core.nodess, Core.szs, List.length_append]
    omega
end
theorem named_eq : ∀ (c : Core), c.Small → ∀ (n : Nat) (a : List Int), 4 * c.nodes ≤ n → a.length + c.nm.length ≤ Big → i_namedDefs n c a = some (a ++ c.nm) := by
  refine Core.ind fun c ih hs n a hn ha => ?_
  obtain ⟨_, hd, hk, hf⟩ := hs
  rw [Core.nodes_eq] at hn
  rw [Core.nm_eq] at ha ⊢
  obtain ⟨n, rfl⟩ : ∃ m, n = m + 1 := ⟨n - 1, by omega⟩
  obtain ⟨n, rfl⟩ : ∃ m, n = m + 1 := ⟨n - 1, by omega⟩
  have loop : ∀ (post pre : List Core) (n : Nat) (b : List Int), c.kids = pre ++ post → 4 * Core.nodess post + 1 ≤ n → b.length + (Core.nms post).length ≤ Big →
      i_namedDefs_l3 n c b ((List.length pre : Nat) : Int) = some (b ++ Core.nms post) := by
    intro post
    induction post with
    | nil =>
      intro pre n b h hn _
      obtain ⟨n, rfl⟩ : ∃ m, n = m + 1 := ⟨n - 1, by omega⟩
      rw [i_namedDefs_l3, ge_app h, if_neg (by simp), Core.nms, List.append_nil]
    | cons x post ihp =>
      intro pre n b h hn hb
      rw [Core.nodess] at hn
      rw [Core.nms, List.length_append] at hb
      have := x.nodes_pos
      obtain ⟨n, rfl⟩ : ∃ m, n = m + 1 := ⟨n - 1, by omega⟩
      have hx : x ∈ c.kids := by rw [h]; simp
      rw [i_namedDefs_l3, if_pos (lt_app h), at_app h, bind_some', ih x hx (hf x hx) n b (by omega) (by omega), bind_some', wrap_app h hk, ihp (pre ++ [x]) n _ (next_app h) (by omega) (by rw [List.length_append]; omega), Core.nms, List.append_assoc]
  have rest : ∀ b : List Int, b.length + (c.data.length + (Core.nms c.kids).length) ≤ Big → i_namedDefs_j1 (n + 1) c b = some (b ++ c.data ++ Core.nms c.kids) := fun b hb => by
    rw [i_namedDefs_j1, app_ok (by omega), bind_some']
    exact loop c.kids [] n _ (by simp) (by omega) (by rw [List.length_append]; omega)
  simp only [List.length_append] at ha
  rw [i_namedDefs]
  by_cases h : c.kind = 11
  · rw [if_pos (by simpa using h), if_pos h]
    rw [if_pos h] at ha
    simp only [List.length_cons, List.length_nil] at ha
    rw [app_ok (by simp; omega), bind_some', rest _ (by simp; omega)]
    simp
  · rw [if_neg (by simpa using h), if_neg h]
    rw [if_neg h] at ha
    simp only [List.length_nil] at ha
    rw [rest _ (by omega)]
    simp

/-! ### A number put to its place -/
theorem put_done (l : List Int) (x : Int) (hl : l.length ≤ Big) : ∀ (post pre acc : List Int) (n : Nat), l = pre ++ post → 3 * post.length + 1 ≤ n → acc.length + post.length ≤ Big → s_l00Put_l10 n l x acc true ((List.length pre : Nat) : Int) = some (acc ++ post) := by
  intro post
  induction post with
  | nil =>
    intro pre acc n h hn hb
    obtain ⟨n, rfl⟩ : ∃ m, n = m + 1 := ⟨n - 1, by omega⟩
    rw [s_l00Put_l10, ge_app h]; simp
  | cons y post ih =>
    intro pre acc n h hn hb
    rw [List.length_cons] at hn hb
    obtain ⟨n, rfl⟩ : ∃ m, n = m + 3 := ⟨n - 3, by omega⟩
    rw [s_l00Put_l10, if_pos (lt_app h), if_neg (by simp), s_l00Put_j11, if_neg (by simp), s_l00Put_j12, at_app h, bind_some', app_ok (by simp; omega), bind_some', wrap_app h hl, ih (pre ++ [y]) (acc ++ [y]) n (next_app h) (by omega) (by simp; omega)]
    simp
theorem put_go (l : List Int) (x : Int) (hl : l.length ≤ Big) : ∀ (post pre acc : List Int) (n : Nat), l = pre ++ post → 3 * post.length + 1 ≤ n → acc.length + post.length + 1 ≤ Big → s_l00Put_l10 n l x acc false ((List.length pre : Nat) : Int) = some (acc ++ putI post x) := by
  intro post
  induction post with
  | nil =>
    intro pre acc n h hn hb
    obtain ⟨n, rfl⟩ : ∃ m, n = m + 1 := ⟨n - 1, by omega⟩
    rw [s_l00Put_l10, ge_app h, if_neg (by simp), if_pos (by simp), app_ok (by simp at hb ⊢; omega), bind_some', putI]
  | cons y post ih =>
    intro pre acc n h hn hb
    rw [List.length_cons] at hn hb
    obtain ⟨n, rfl⟩ : ∃ m, n = m + 3 := ⟨n - 3, by omega⟩
    rw [s_l00Put_l10, if_pos (lt_app h), if_pos (by simp), at_app h, bind_some', s_l00Put_j11, putI]
    by_cases h1 : x ≤ y
    · rw [if_pos (by simpa using h1), at_app h, bind_some']
      by_cases h2 : x < y
      · rw [if_pos (by simpa using h2), app_ok (by simp; omega), bind_some', s_l00Put_j12, at_app h, bind_some', app_ok (by simp; omega), bind_some', wrap_app h hl, put_done l x hl post (pre ++ [y]) _ n (next_app h) (by omega) (by simp; omega), if_pos h2]
        simp
      · rw [if_neg (by simpa using h2), s_l00Put_j12, at_app h, bind_some', app_ok (by simp; omega), bind_some', wrap_app h hl, put_done l x hl post (pre ++ [y]) _ n (next_app h) (by omega) (by simp; omega), if_neg h2, if_pos (by omega)]
        simp
    · rw [if_neg (by simpa using h1), s_l00Put_j12, at_app h, bind_some', app_ok (by simp; omega), bind_some', wrap_app h hl, ih (pre ++ [y]) _ n (next_app h) (by omega) (by simp; omega), if_neg (by omega), if_neg (by omega)]
      simp
theorem l00Put_eq (l : List Int) (x : Int) (hl : l.length + 1 ≤ Big) : s_l00Put l x = some (putI l x) := by
  unfold s_l00Put
  have := put_go l x (by omega) l [] [] fuel (by simp) (by rw [fuel_eq]; unfold Big at hl; omega) (by simp; omega)
  simpa using this
theorem sNames_eq : ∀ (c : Core), c.Small → ∀ (n : Nat) (a : List Int), 4 * c.nodes + 4 * c.sz ≤ n → a.length + c.nm.length + 1 ≤ Big → s_l35Names n c a = some (putIs a c.nm) := by
  refine Core.ind fun c ih hs n a hn ha => ?_
  obtain ⟨_, hd, hk, hf⟩ := hs
  rw [Core.nodes_eq, Core.sz_eq] at hn
  rw [Core.nm_eq] at ha ⊢
  obtain ⟨n, rfl⟩ : ∃ m, n = m + 1 := ⟨n - 1, by omega⟩
  obtain ⟨n, rfl⟩ : ∃ m, n = m + 1 := ⟨n - 1, by omega⟩
  have loop : ∀ (post pre : List Core) (n : Nat) (b : List Int), c.kids = pre ++ post → 4 * Core.nodess post + 4 * Core.szs post + 1 ≤ n → b.length + (Core.nms post).length + 1 ≤ Big →
      s_l35Names_l5 n c b ((List.length pre : Nat) : Int) = some (putIs b (Core.nms post)) := by
    intro post
    induction post with
    | nil =>
      intro pre n b h hn _
      obtain ⟨n, rfl⟩ : ∃ m, n = m + 1 := ⟨n - 1, by omega⟩
      rw [s_l35Names_l5, ge_app h, if_neg (by simp), Core.nms]; rfl
    | cons x post ihp =>
      intro pre n b h hn hb
      rw [Core.nodess, Core.szs] at hn
      rw [Core.nms, List.length_append] at hb
      have := x.nodes_pos
      have hpl := putIs_len (l := b) (ns := x.nm)
      obtain ⟨n, rfl⟩ : ∃ m, n = m + 1 := ⟨n - 1, by omega⟩
      have hx : x ∈ c.kids := by rw [h]; simp
      rw [s_l35Names_l5, if_pos (lt_app h), at_app h, bind_some', ih x hx (hf x hx) n b (by omega) (by omega), bind_some', wrap_app h hk, ihp (pre ++ [x]) n _ (next_app h) (by omega) (by omega), Core.nms, putIs_app]
  have data : ∀ (post pre : List Int) (n : Nat) (b : List Int), c.data = pre ++ post → 4 * Core.nodess c.kids + 4 * Core.szs c.kids + 1 + post.length + 1 ≤ n → b.length + post.length + (Core.nms c.kids).length + 1 ≤ Big →
      s_l35Names_l3 n c b ((List.length pre : Nat) : Int) = some (putIs b (post ++ Core.nms c.kids)) := by
    intro post
    induction post with
    | nil =>
      intro pre n b h hn hb
      obtain ⟨n, rfl⟩ : ∃ m, n = m + 1 := ⟨n - 1, by omega⟩
      rw [s_l35Names_l3, ge_app h, if_neg (by simp), show (0 : Int) = ((List.length ([] : List Core) : Nat) : Int) from rfl, loop c.kids [] n b (by simp) (by omega) (by simp at hb; omega)]
      rfl
    | cons x post ihp =>
      intro pre n b h hn hb
      rw [List.length_cons] at hn hb
      have hpl := putI_len (n := x) (l := b)
      obtain ⟨n, rfl⟩ : ∃ m, n = m + 1 := ⟨n - 1, by omega⟩
      rw [s_l35Names_l3, if_pos (lt_app h), at_app h, bind_some', l00Put_eq _ _ (by omega), bind_some', wrap_app h hd, ihp (pre ++ [x]) n _ (next_app h) (by omega) (by omega)]
      rfl
  have rest : ∀ b : List Int, b.length + (c.data.length + (Core.nms c.kids).length) + 1 ≤ Big → s_l35Names_j1 (n + 1) c b = some (putIs b (c.data ++ Core.nms c.kids)) := fun b hb => by
    rw [s_l35Names_j1]
    exact data c.data [] n b (by simp) (by omega) (by omega)
  simp only [List.length_append] at ha
  rw [s_l35Names]
  by_cases h : c.kind = 11
  · rw [if_pos (by simpa using h), if_pos h]
    rw [if_pos h] at ha
    simp only [List.length_cons, List.length_nil] at ha
    have hpl := putI_len (n := c.value) (l := a)
    rw [l00Put_eq _ _ (by omega), bind_some', rest _ (by omega), List.append_assoc]
    rfl
  · rw [if_neg (by simpa using h), if_neg h]
    rw [if_neg h] at ha
    simp only [List.length_nil] at ha
    rw [rest _ (by omega)]
    rfl
/-! ### What the definitions of a book name -/
def uses (b : Book) : List (List Int) := b.defs.map fun c => putIs [] c.nm
theorem uses_fuel {c : Core} (h : c.nodes ≤ 1048577) (h' : c.sz ≤ 1048576) : 4 * c.nodes + 4 * c.sz ≤ fuel := by rw [fuel_eq]; omega
theorem def_sz {b : Book} (hb : b.sz ≤ 1048576) {c : Core} (hc : c ∈ b.defs) : c.Small ∧ c.nodes ≤ 1048577 ∧ c.sz ≤ 1048576 := by
  have h1 : Core.szs b.defs ≤ 1048576 := hb
  have h2 := Core.szs_mem hc
  have h3 := Core.nodes_le c
  exact ⟨c.small_of (by unfold Big; omega), by omega, by omega⟩
theorem nm_big {c : Core} (h : c.nodes ≤ 1048577) (h' : c.sz ≤ 1048576) : c.nm.length ≤ 2097153 := by have := Core.nm_len c; omega
theorem sUses_eq (b : Book) (hb : b.sz ≤ 1048576) : s_l35Uses b = some (uses b) := by
  have hl := Core.len_szs b.defs
  have hb' : Core.szs b.defs ≤ 1048576 := hb
  have loop : ∀ (post pre : List Core) (n : Nat) (a : List (List Int)), b.defs = pre ++ post → post.length + 1 ≤ n → a.length + post.length ≤ Big →
      s_l35Uses_l2 n b a ((List.length pre : Nat) : Int) = some (a ++ post.map fun c => putIs [] c.nm) := by
    intro post
    induction post with
    | nil =>
      intro pre n a h hn _
      obtain ⟨n, rfl⟩ : ∃ m, n = m + 1 := ⟨n - 1, by omega⟩
      rw [s_l35Uses_l2, ge_app h]; simp
    | cons x post ihp =>
      intro pre n a h hn ha
      rw [List.length_cons] at hn ha
      obtain ⟨n, rfl⟩ : ∃ m, n = m + 1 := ⟨n - 1, by omega⟩
      obtain ⟨h1, h2, h3⟩ := def_sz hb (c := x) (by rw [h]; simp)
      have h4 := nm_big h2 h3
      rw [s_l35Uses_l2, if_pos (lt_app h), at_app h, bind_some', sNames_eq x h1 fuel [] (uses_fuel h2 h3) (by simp [Big]; omega), bind_some', app_ok (by simp; omega), bind_some', wrap_app h (by unfold Big; omega), ihp (pre ++ [x]) n _ (next_app h) (by omega) (by simp; omega)]
      simp
  unfold s_l35Uses
  have := loop b.defs [] fuel [] (by simp) (by rw [fuel_eq]; omega) (by simp [Big]; omega)
  simpa [uses] using this
theorem iUsesIn_eq (b : Book) (hb : b.sz ≤ 1048576) (d : Int) (c : Core) (hd : at? b.defs d = some c) : i_Book_usesIn b d = some (putIs [] c.nm) := by
  have hc : c ∈ b.defs := List.mem_of_getElem? (at_some hd).2
  obtain ⟨h1, h2, h3⟩ := def_sz hb hc
  have h4 := nm_big h2 h3
  unfold i_Book_usesIn
  rw [hd, bind_some', named_eq c h1 fuel [] (by have := uses_fuel h2 h3; omega) (by simp [Big]; omega), bind_some', List.nil_append, g_Sort_sint64, if_pos (by omega), bind_some', g_Compact_sint64, bind_some', compact_sort]
theorem szl_uses : ∀ l : List Core, szl List.length (l.map fun c => putIs [] c.nm) ≤ l.length + (Core.nodess l + Core.szs l)
  | [] => by simp [szl]
  | c :: cs => by
    have h1 := szl_uses cs
    have h2 := Core.nm_len c
    have h3 := putIs_len (l := []) (ns := c.nm)
    rw [List.map_cons, szl, Core.nodess, Core.szs, List.length_cons]
    simp only [List.length_nil] at h3
    omega
theorem uses_small (b : Book) (hb : b.sz ≤ 1048576) : szl List.length (uses b) ≤ 4194304 := by
  have h1 := szl_uses b.defs
  have h2 := Core.nodess_le b.defs
  have h3 := Core.len_szs b.defs
  have hb' : Core.szs b.defs ≤ 1048576 := hb
  unfold uses; omega
theorem BookUses_same (b : Book) (hb : b.sz ≤ 1048576) : ∃ r, s_BookUses b = some r ∧ i_BookUses b = some r ∧ szl List.length r.1 ≤ Big := by
  obtain ⟨hl, hs, hN⟩ := szs_small (l := b.defs) hb
  unfold s_BookUses i_BookUses
  rw [l06Book_eq b hl hs, ValidBook_eq b hl hs, bind_some', bind_some', sUses_eq b hb, bind_some']
  cases hv : b.valid with
  | false => exact ⟨([], 1), by simp, by simp, by simp [szl]⟩
  | true =>
    refine ⟨(uses b, 0), by simp, ?_, by have := uses_small b hb; unfold Big; show szl List.length (uses b) ≤ _; omega⟩
    simp only [Bool.not_true, Bool.false_eq_true, reduceIte]
    have hl' := Core.len_szs b.defs
    have hb' : Core.szs b.defs ≤ 1048576 := hb
    have loop : ∀ (post pre : List Core) (n : Nat) (a : List (List Int)), b.defs = pre ++ post → post.length + 1 ≤ n → a.length + post.length ≤ Big →
        i_BookUses_l2 n b a ((List.length pre : Nat) : Int) = some (a ++ post.map fun c => putIs [] c.nm, 0) := by
      intro post
      induction post with
      | nil =>
        intro pre n a h hn _
        obtain ⟨n, rfl⟩ : ∃ m, n = m + 1 := ⟨n - 1, by omega⟩
        rw [i_BookUses_l2, ge_app h]; simp
      | cons x post ihp =>
        intro pre n a h hn ha
        rw [List.length_cons] at hn ha
        obtain ⟨n, rfl⟩ : ∃ m, n = m + 1 := ⟨n - 1, by omega⟩
        rw [i_BookUses_l2, if_pos (lt_app h), iUsesIn_eq b hb _ x (at_app h), bind_some', app_ok (by simp; omega), bind_some', wrap_app h hl, ihp (pre ++ [x]) n _ (next_app h) (by omega) (by simp; omega)]
        simp
    have := loop b.defs [] fuel [] (by simp) (by rw [fuel_eq]; omega) (by simp [Big]; omega)
    simpa [uses] using this
end Go.Proofs.Ytffokcfdkkikmaa.Ab
