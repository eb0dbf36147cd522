/-
  Rising lists of numbers: sorted and compacted, and put together one by one. No program is in sight.
-/
import Derived.Test.YtffokcfdkkikmaaManS
namespace Go.Proofs.Ytffokcfdkkikmaa.Ab
set_option linter.unusedVariables false
set_option linter.unusedSimpArgs false
open Go.RowKit

/-- Strictly rising. -/
abbrev Rise (l : List Int) : Prop := l.Pairwise (· < ·)
theorem rise_ext : ∀ {a b : List Int}, Rise a → Rise b → (∀ x, x ∈ a ↔ x ∈ b) → a = b
  | [], [], _, _, _ => rfl
  | [], y :: b, _, _, h => by have := (h y).2 (by simp); simp at this
  | x :: a, [], _, _, h => by have := (h x).1 (by simp); simp at this
  | x :: a, y :: b, ha, hb, h => by
    obtain ⟨h1, h2⟩ := List.pairwise_cons.1 ha
    obtain ⟨h3, h4⟩ := List.pairwise_cons.1 hb
    have hxy : x = y := by
      rcases List.mem_cons.1 ((h x).1 (by simp)) with e | e
      · exact e
      · rcases List.mem_cons.1 ((h y).2 (by simp)) with e' | e'
        · exact e'.symm
        · have := h1 y e'; have := h3 x e; omega
    subst hxy
    rw [rise_ext h2 h4 fun z => ⟨fun hz => ?_, fun hz => ?_⟩]
    · rcases List.mem_cons.1 ((h z).1 (by simp [hz])) with e | e
      · have := h1 z hz; omega
      · exact e
    · rcases List.mem_cons.1 ((h z).2 (by simp [hz])) with e | e
      · have := h3 z hz; omega
      · exact e
/-- A number put to its place, once. -/
def putI : List Int → Int → List Int
  | [], n => [n]
  | x :: l, n => if n < x then n :: x :: l else if n = x then x :: l else x :: putI l n
theorem putI_mem {n y : Int} : ∀ {l : List Int}, y ∈ putI l n ↔ y = n ∨ y ∈ l
  | [] => by simp [putI]
  | x :: l => by
    rw [putI]
    split
    · simp
    · split
      · rename_i h; subst h; simp
      · rw [List.mem_cons, putI_mem, List.mem_cons]
        constructor
        · rintro (h | h | h)
          · exact .inr (.inl h)
          · exact .inl h
          · exact .inr (.inr h)
        · rintro (h | h | h)
          · exact .inr (.inl h)
          · exact .inl h
          · exact .inr (.inr h)
theorem putI_rise {n : Int} : ∀ {l : List Int}, Rise l → Rise (putI l n)
  | [], _ => by simp [putI]
  | x :: l, h => by
    obtain ⟨h1, h2⟩ := List.pairwise_cons.1 h
    rw [putI]
    split
    · rename_i hx
      refine List.pairwise_cons.2 ⟨fun y hy => ?_, h⟩
      rcases List.mem_cons.1 hy with rfl | hy
      · exact hx
      · have := h1 y hy; omega
    · split
      · exact h
      · refine List.pairwise_cons.2 ⟨fun y hy => ?_, putI_rise h2⟩
        rcases putI_mem.1 hy with rfl | hy
        · omega
        · exact h1 y hy
theorem putI_len {n : Int} : ∀ {l : List Int}, (putI l n).length ≤ l.length + 1
  | [] => by simp [putI]
  | x :: l => by
    rw [putI]
    split
    · simp
    · split
      · simp
      · have := putI_len (n := n) (l := l); simp only [List.length_cons]; omega
/-- Numbers put one after another. -/
def putIs (l ns : List Int) : List Int := ns.foldl putI l
theorem putIs_mem {y : Int} : ∀ {ns l : List Int}, y ∈ putIs l ns ↔ y ∈ l ∨ y ∈ ns
  | [], l => by simp [putIs]
  | n :: ns, l => by
    have := putIs_mem (y := y) (ns := ns) (l := putI l n)
    unfold putIs at this ⊢
    rw [List.foldl_cons, this, putI_mem, List.mem_cons]
    constructor
    · rintro ((h | h) | h)
      · exact .inr (.inl h)
      · exact .inl h
      · exact .inr (.inr h)
    · rintro (h | h | h)
      · exact .inl (.inr h)
      · exact .inl (.inl h)
      · exact .inr h
theorem putIs_rise : ∀ {ns l : List Int}, Rise l → Rise (putIs l ns)
  | [], _, h => h
  | n :: ns, l, h => by
    unfold putIs
    rw [List.foldl_cons]
    exact putIs_rise (ns := ns) (putI_rise h)
theorem putIs_len : ∀ {ns l : List Int}, (putIs l ns).length ≤ l.length + ns.length
  | [], l => by simp [putIs]
  | n :: ns, l => by
    have h1 := putIs_len (ns := ns) (l := putI l n)
    have h2 := putI_len (n := n) (l := l)
    unfold putIs at h1 ⊢
    rw [List.foldl_cons, List.length_cons]
    omega
theorem putIs_app (l a b : List Int) : putIs l (a ++ b) = putIs (putIs l a) b := by simp [putIs, List.foldl_append]

/-! Sorted and compacted. -/
theorem sortI_le {l : List Int} : (sortI l).Pairwise (· ≤ ·) := by
  have h := List.pairwise_mergeSort (le := fun x y : Int => decide (x ≤ y)) (fun a b c h1 h2 => by simp at h1 h2 ⊢; omega) (fun a b => by simp; omega) l
  unfold sortI
  exact h.imp fun h => by simpa using h
theorem le_get {l : List Int} (h : l.Pairwise (· ≤ ·)) : ∀ {i j : Nat}, i ≤ j → j < l.length → l.toArray[i]! ≤ l.toArray[j]! := by
  intro i j hij hj
  rw [getElem!_pos _ i (by simp; omega), getElem!_pos _ j (by simpa using hj), List.getElem_toArray, List.getElem_toArray]
  rcases Nat.lt_or_ge i j with h1 | h1
  · exact List.pairwise_iff_getElem.1 h i j (by omega) hj h1
  · have : i = j := by omega
    subst this; exact Int.le_refl _
theorem compact_rise {l : List Int} (h : l.Pairwise (· ≤ ·)) : Rise (Lib.compact l) ∧ ∀ x, x ∈ Lib.compact l ↔ x ∈ l := by
  have key : ∀ m, m ≤ l.length → Rise (Lib.compactUpTo l.toArray m) ∧ ∀ x, x ∈ Lib.compactUpTo l.toArray m ↔ ∃ j, j < m ∧ l.toArray[j]! = x := by
    intro m
    induction m with
    | zero => intro _; exact ⟨by simp [Lib.compactUpTo], fun x => by simp [Lib.compactUpTo]⟩
    | succ m ih =>
      intro hm
      obtain ⟨h1, h2⟩ := ih (by omega)
      rw [Lib.compactUpTo_succ]
      by_cases hk : Lib.keeps l.toArray m = true
      · rw [if_pos hk]
        unfold Lib.keeps at hk
        rw [decide_eq_true_eq] at hk
        refine ⟨List.pairwise_append.2 ⟨h1, by simp, fun a ha b hb => ?_⟩, fun x => ?_⟩
        · rw [List.mem_singleton] at hb
          subst hb
          obtain ⟨j, hj, rfl⟩ := (h2 a).1 ha
          rcases hk with rfl | hk
          · omega
          · have h3 := le_get h (i := j) (j := m - 1) (by omega) (by omega)
            have h4 := le_get h (i := m - 1) (j := m) (by omega) (by omega)
            have h5 : l.toArray[m - 1]! < l.toArray[m]! := by
              rcases Int.lt_or_eq_of_le h4 with h5 | h5
              · exact h5
              · exact absurd h5.symm hk
            exact Int.lt_of_le_of_lt h3 h5
        · rw [List.mem_append, h2, List.mem_singleton]
          constructor
          · rintro (⟨j, hj, e⟩ | e)
            · exact ⟨j, by omega, e⟩
            · exact ⟨m, by omega, e.symm⟩
          · rintro ⟨j, hj, e⟩
            by_cases hjm : j = m
            · subst hjm; exact .inr e.symm
            · exact .inl ⟨j, by omega, e⟩
      · rw [if_neg hk, List.append_nil]
        refine ⟨h1, fun x => ?_⟩
        rw [h2]
        have hk' : m ≠ 0 ∧ l.toArray[m]! = l.toArray[m - 1]! := by
          unfold Lib.keeps at hk
          rw [decide_eq_true_eq] at hk
          constructor
          · intro h0; exact hk (.inl h0)
          · exact Classical.byContradiction fun h0 => hk (.inr h0)
        constructor
        · rintro ⟨j, hj, e⟩; exact ⟨j, by omega, e⟩
        · rintro ⟨j, hj, e⟩
          by_cases hjm : j = m
          · subst hjm; exact ⟨j - 1, by omega, by rw [← hk'.2]; exact e⟩
          · exact ⟨j, by omega, e⟩
  obtain ⟨h1, h2⟩ := key l.length (Nat.le_refl _)
  refine ⟨h1, fun x => (h2 x).trans ⟨fun ⟨j, hj, e⟩ => ?_, fun hx => ?_⟩⟩
  · rw [getElem!_pos _ j (by simpa using hj), List.getElem_toArray] at e
    rw [← e]; exact List.getElem_mem hj
  · obtain ⟨j, hj, rfl⟩ := List.getElem_of_mem hx
    exact ⟨j, hj, by rw [getElem!_pos _ j (by simpa using hj), List.getElem_toArray]⟩
/-- Sorted and compacted: the same as put together one by one. -/
theorem compact_sort (l : List Int) : Lib.compact (sortI l) = putIs [] l := by
  obtain ⟨h1, h2⟩ := compact_rise (sortI_le (l := l))
  refine rise_ext h1 (putIs_rise (by simp)) fun x => ?_
  rw [h2, sortI_mem, putIs_mem]; simp
end Go.Proofs.Ytffokcfdkkikmaa.Ab
