/-
  Rising lists of numbers: sorted and compacted, and put together one by one. No program is in sight.
-/
import Derived.Test.YtffokcfdkkikmaaManS
namespace Go.Proofs.Ytffokcfdkkikmaa.Ab
set_option linter.unusedVariables false
set_option linter.unusedSimpArgs false
open Go.RowKit

/-- Strictly rising. -/
abbrev Rise (l : List Int) : Prop := l.Pairwise (· < ·)
theorem rise_ext : ∀ {a b : List Int}, Rise a → Rise b → (∀ x, x ∈ a ↔ x ∈ b) → a = b
  | [], [], _, _, _ => rfl
  | [], y :: b, _, _, h => by have := (h y).2 (by simp); simp at this
  | x :: a, [], _, _, h => by have := (h x).1 (by simp); simp at this
  | x :: a, y :: b, ha, hb, h => by
    obtain ⟨h1, h2⟩ := List.pairwise_cons.1 ha
    obtain ⟨h3, h4⟩ := List.pairwise_cons.1 hb
    have hxy : x = y := by
      rcases List.mem_cons.1 ((h x).1 (by simp)) with e | e
      · exact e
      · rcases List.mem_cons.1 ((h y).2 (by simp)) with e' | e'
        · exact e'.symm
        · have := h1 y e'; have := h3 x e; omega
    subst hxy
    rw [rise_ext h2 h4 fun z => ⟨fun hz => ?_, fun hz => ?_⟩]
    · rcases List.mem_cons.1 ((h z).1 (by simp [hz])) with e | e
      · have := h1 z hz; omega
      · exact e
    · rcases List.mem_cons.1 ((h z).2 (by simp [hz])) with e | e
      · have := h3 z hz; omega
      · exact e
/-- A number put to its place, once. -/
def putI : List Int → Int → List Int
  | [], n => [n]
  | x :: l, n => if n < x then n :: x :: l else if n = x then x :: l else x :: putI l n
theorem putI_mem {n y : Int} : ∀ {l : List Int}, y ∈ putI l n ↔ y = n ∨ y ∈ l
  | [] => by simp [putI]
  | x :: l => by
    rw [putI]
    split
    · simp
    · split
      · rename_i h; subst h; simp
      · rw [List.mem_cons, putI_mem, List.mem_cons]
        constructor
        · rintro (h | h | h)
          · exact .inr (.inl h)
          · exact .inl h
          · exact .inr (.inr h)
        · rintro (h | h | h)
          · exact .inr (.inl h)
          · exact .inl h
          · exact .inr (.inr h)
theorem putI_rise {n : Int} : ∀ {l : List Int}, Rise l → Rise (putI l n)
  | [], _ => by simp [putI]
  | x :: l, h => by
    obtain ⟨h1, h2⟩ := List.pairwise_cons.1 h
    rw [putI]
    split
    · rename_i hx
      refine List.pairwise_cons.2 ⟨fun y hy => ?_, h⟩
      rcases List.mem_cons.1 hy with rfl | hy
      · exact hx
      · have := h1 y hy; omega
    · split
      · exact h
      · refine List.pairwise_cons.2 ⟨fun y hy => ?_, putI_rise h2⟩
        rcases putI_mem.1 hy with rfl | hy
        · omega
        · exact h1 y hy
theorem putI_len {n : Int} : ∀ {l : List Int}, (putI l n).length ≤ l.length + 1
  | [] => by simp [putI]
  | x :: l => by
    rw [putI]
    split
    · simp
    · split
      · simp
      · have := putI_len (n := n) (l := l); simp only [List.length_cons]; omega
/-- Numbers put one after another. -/
def putIs (l ns : List Int) : List Int := ns.foldl putI l
theorem putIs_mem {y : Int} : ∀ {ns l : List Int}, y ∈ putIs l ns ↔ y ∈ l ∨ y ∈ ns
  | [], l => by simp [putIs]
  | n :: ns, l => by
    have := putIs_mem (y := y) (ns := ns) (l := putI l n)
    unfold putIs at this ⊢
    rw [List.foldl_cons, this, putI_mem, List.mem_cons]
    constructor
    · rintro ((h | h) | h)
      · exact .inr (.inl h)
      · exact .inl h
      · exact .inr (.inr h)
    · rintro (h | h | h)
      · exact .inl (.inr h)
      · exact .inl (.inl h)
      · exact .inr h
theorem putIs_rise : ∀ {ns l : List Int}, Rise l → Rise (putIs l ns)
  | [], _, h => h
  | n :: ns, l, h => by
    unfold putIs
    rw [List.foldl_cons]
    exact putIs_rise (ns := ns) (putI_rise h)
theorem putIs_len : ∀ {ns l : List Int}, (putIs l ns).length ≤ l.length + ns.length
  | [], l => by simp [putIs]
  | n :: ns, l => by
    have h1 := putIs_len (ns := ns) (l := putI l n)
    have h2 := putI_len (n := n) (l := l)
    unfold putIs at h1 ⊢
    rw [List.foldl_cons, List.length_cons]
    omega
theorem putIs_app (l a b : List Int) : putIs l (a ++ b) = putIs (putIs l a) b := by simp [putIs, List.foldl_append]

/-! Sorted and compacted. -/
theorem sortI_le {l : List Int} : (sortI l).Pairwise (· ≤ ·) := by
  have h := List.pairwise_mergeSort (le := fun x y : Int => decide (x ≤ y)) (fun a b c h1 h2 => by simp at h1 h2 ⊢; omega) (fun a b => by simp; omega) l
  unfold sortI
  exact h.imp fun h => by simpa using h
theorem le_get {l : List Int} (h : l.Pairwise (· ≤ ·)) : ∀ {i j : Nat}, i ≤ j → j < l.length → l.toArray[i]! ≤ l.toArray[j]! := by
  intro i j hij hj
  rw [getElem!_pos _ i (by simp; omega), getElem!_pos _ j (by simpa using hj), List.getElem_toArray, List.getElem_toArray]
  rcases Nat.lt_or_ge i j with h1 | h1
  · exact List.pairwise_iff_getElem.1 h i j (by omega) hj h1
  · have : i = j := by omega
    subst this; exact Int.le_refl _
theorem compact_rise {l : List Int} (h : l.Pairwise (· ≤ ·)) : Rise (Lib.compact l) ∧ ∀ x, x ∈ Lib.compact l ↔ x ∈ l := by
  have key : ∀ m, m ≤ l.length → Rise (Lib.compactUpTo l.toArray m) ∧ ∀ x, x ∈ Lib.compactUpTo l.toArray m ↔ ∃ j, j < m ∧ l.toArray[j]! = x := by
    intro m
    induction m with
    | zero => intro _; exact ⟨by simp [Lib.compactUpTo], fun x => by simp [Lib.compactUpTo]⟩
    | succ m ih =>
      intro hm
      obtain ⟨h1, h2⟩ := ih (by omega)
      rw [Lib.compactUpTo_succ]
      by_cases hk : Lib.keeps l.toArray m = true
      · rw [if_pos hk]
        unfold Lib.keeps at hk
        rw [decide_eq_true_eq] at hk
        refine ⟨List.pairwise_append.2 ⟨h1, by simp, fun a ha b hb => ?_⟩, fun x => ?_⟩
        · rw [List.mem_singleton] at hb
          subst hb
          obtain ⟨j, hj, rfl⟩ := (h2 a).1 ha
          rcases hk with rfl | hk
          · omega
          · have h3 := le_get h (i := j) (j := m - 1) (by omega) (by omega)
            have h4 := le_get h (i := m - 1) (j := m) (by omega) (by omega)
            have h5 : l.toArray[m - 1]! < l.toArray[m]! := by
              rcases Int.lt_or_eq_of_le h4 with h5 | h5
              · exact h5
              · exact absurd h5.symm hk
            exact Int.lt_of_le_of_lt h3 h5
        · rw [List.mem_append, h2, List.mem_singleton]
          constructor
          · rintro (⟨j, hj, e⟩ | e)
            · exact ⟨j, by omega, e⟩
            · exact ⟨m, by omega, e.symm⟩
          · rintro ⟨j, hj, e⟩
            by_cases hjm : j = m
            · subst hjm; exact .inr e.symm
            · exact .inl ⟨j, by omega, e⟩
      · rw [if_neg hk, List.append_nil]
        refine ⟨h1, fun x => ?_⟩
        rw [h2]
        have hk' : m ≠ 0 ∧ l.toArray[m]! = l.toArray[m - 1]! := by
          unfold Lib.keeps at hk
          rw [decide_eq_true_eq] at hk
          constructor
          · intro h0; exact hk (.inl h0)
          · exact Classical.byContradiction fun h0 => hk (.inr h0)
        constructor
        · rintro ⟨j, hj, e⟩; exact ⟨j, by omega, e⟩
        · rintro ⟨j, hj, e⟩
          by_cases hjm : j = m
          · subst hjm; exact ⟨j - 1, by omega, by rw [← hk'.2]; exact e⟩
          · exact ⟨j, by omega, e⟩
  obtain ⟨h1, h2⟩ := key l.length (Nat.le_refl _)
  refine ⟨h1, fun x => (h2 x).trans ⟨fun ⟨j, hj, e⟩ => ?_, fun hx => ?_⟩⟩
  · rw [getElem!_pos _ j (by simpa using hj), List.getElem_toArray] at e
    rw [← e]; exact List.getElem_mem hj
  · obtain ⟨j, hj, rfl⟩ := List.getElem_of_mem hx
    exact ⟨j, hj, by rw [getElem!_pos _ j (by simpa using hj), List.getElem_toArray]⟩
/-- Sorted and compacted: the same as put together one by one. -/
theorem compact_sort (l : List Int) : Lib.compact (sortI l) = putIs [] l := by
  obtain ⟨h1, h2⟩ := compact_rise (sortI_le (l := l))
  refine rise_ext h1 (putIs_rise (by simp)) fun x => ?_
  rw [h2, sortI_mem, putIs_mem]; simp

/-- Numbers in a range, each once: not more than the range has. -/
theorem nodup_len : ∀ (k : Nat) (l : List Int), l.Nodup → (∀ x ∈ l, 0 ≤ x ∧ x < (k : Int)) → l.length ≤ k
  | 0, [], _, _ => Nat.le_refl 0
  | 0, x :: l, _, h => by have := h x (by simp); omega
  | k + 1, l, hn, h => by
    by_cases hk : (k : Int) ∈ l
    · have h1 := nodup_len k (l.erase (k : Int)) (hn.erase _) fun x hx => by
        have h2 := (List.Nodup.mem_erase_iff hn).1 hx
        have h3 := h x h2.2
        have := h2.1
        omega
      rw [List.length_erase_of_mem hk] at h1
      omega
    · have h1 := nodup_len k l hn fun x hx => by
        have h3 := h x hx
        have : x ≠ (k : Int) := fun e => hk (e ▸ hx)
        omega
      omega
theorem rise_nodup {l : List Int} (h : Rise l) : l.Nodup := by
  unfold List.Nodup
  exact h.imp fun h => by omega
/-- Appended where it is not there yet. -/
def addNew (out : List Int) (y : Int) : List Int := if y ∈ out then out else out ++ [y]
def addAll (out ys : List Int) : List Int := ys.foldl addNew out
theorem addNew_mem {out : List Int} {y z : Int} : z ∈ addNew out y ↔ z ∈ out ∨ z = y := by
  unfold addNew
  split
  · constructor
    · exact .inl
    · rintro (h | rfl)
      · exact h
      · assumption
  · simp
theorem addAll_mem {z : Int} : ∀ {ys out : List Int}, z ∈ addAll out ys ↔ z ∈ out ∨ z ∈ ys
  | [], out => by simp [addAll]
  | y :: ys, out => by
    have := addAll_mem (z := z) (ys := ys) (out := addNew out y)
    unfold addAll at this ⊢
    rw [List.foldl_cons, this, addNew_mem, List.mem_cons]
    constructor
    · rintro ((h | h) | h)
      · exact .inl h
      · exact .inr (.inl h)
      · exact .inr (.inr h)
    · rintro (h | h | h)
      · exact .inl (.inl h)
      · exact .inl (.inr h)
      · exact .inr h
theorem addNew_nodup {out : List Int} {y : Int} (h : out.Nodup) : (addNew out y).Nodup := by
  unfold addNew
  split
  · exact h
  · rename_i hy
    refine List.nodup_append.2 ⟨h, by simp, fun a ha b hb e => ?_⟩
    rw [List.mem_singleton] at hb
    subst hb; subst e
    exact hy ha
theorem addAll_nodup : ∀ {ys out : List Int}, out.Nodup → (addAll out ys).Nodup
  | [], out, h => h
  | y :: ys, out, h => by
    unfold addAll
    rw [List.foldl_cons]
    exact addAll_nodup (ys := ys) (addNew_nodup h)
theorem addAll_pre : ∀ {ys out : List Int}, ∃ t, addAll out ys = out ++ t
  | [], out => ⟨[], by simp [addAll]⟩
  | y :: ys, out => by
    obtain ⟨t, ht⟩ := addAll_pre (ys := ys) (out := addNew out y)
    have h1 : addAll out (y :: ys) = addAll (addNew out y) ys := rfl
    rw [h1, ht]
    unfold addNew
    split
    · exact ⟨t, rfl⟩
    · exact ⟨[y] ++ t, by simp⟩
/-- What is reached: the start, closed, and the least such. -/
structure Reach (U : Int → List Int) (st l : List Int) : Prop where
  start : ∀ x ∈ st, x ∈ l
  closed : ∀ x ∈ l, ∀ y ∈ U x, y ∈ l
  least : ∀ S : Int → Prop, (∀ x ∈ st, S x) → (∀ x, S x → ∀ y ∈ U x, S y) → ∀ x ∈ l, S x
theorem Reach.ext {U : Int → List Int} {start a b : List Int} (h : Reach U start a) (k : Reach U start b) (x : Int) : x ∈ a ↔ x ∈ b :=
  ⟨fun hx => h.least (· ∈ b) k.start k.closed x hx, fun hx => k.least (· ∈ a) h.start h.closed x hx⟩
theorem Reach.congr {U : Int → List Int} {start a b : List Int} (h : Reach U start a) (e : ∀ x, x ∈ a ↔ x ∈ b) : Reach U start b :=
  ⟨fun x hx => (e x).1 (h.start x hx), fun x hx y hy => (e y).1 (h.closed x ((e x).2 hx) y hy), fun S h1 h2 x hx => h.least S h1 h2 x ((e x).2 hx)⟩
/-- A list that grows while it is gone through. -/
theorem bfsN {β : Type} {F : Nat → List Int → Int → Option β} {R : Nat → List Int → Option β} (U : Int → List Int) (k c : Nat) (hU : ∀ x, 0 ≤ x ∧ x < (k : Int) → ∀ y ∈ U x, 0 ≤ y ∧ y < (k : Int))
    (hstep : ∀ (n : Nat) (out pre post : List Int) (x : Int), out = pre ++ x :: post → 0 ≤ x ∧ x < (k : Int) → out.length ≤ k → ∃ m, n ≤ m ∧ F (n + c) out ((List.length pre : Nat) : Int) = F m (addAll out (U x)) ((List.length pre + 1 : Nat) : Int))
    (hend : ∀ (n : Nat) (out : List Int), F (n + 1) out ((List.length out : Nat) : Int) = R n out)
    (start : List Int) (hn : start.Nodup) (hr : ∀ x ∈ start, 0 ≤ x ∧ x < (k : Int)) (n : Nat) (hf : c * k + 1 ≤ n) :
    ∃ out m, n ≤ m + (c * k + 1) ∧ F n start 0 = R m out ∧ out.Nodup ∧ (∀ x ∈ out, 0 ≤ x ∧ x < (k : Int)) ∧ Reach U start out := by
  have loop : ∀ (d : Nat) (pre post : List Int) (n : Nat), k = pre.length + d → (pre ++ post).Nodup → (∀ x ∈ pre ++ post, 0 ≤ x ∧ x < (k : Int)) → (∀ x ∈ start, x ∈ pre ++ post) → (∀ x ∈ pre, ∀ y ∈ U x, y ∈ pre ++ post) →
      (∀ S : Int → Prop, (∀ x ∈ start, S x) → (∀ x, S x → ∀ y ∈ U x, S y) → ∀ x ∈ pre ++ post, S x) → c * d + 1 ≤ n →
      ∃ out m, n ≤ m + (c * d + 1) ∧ F n (pre ++ post) ((List.length pre : Nat) : Int) = R m out ∧ out.Nodup ∧ (∀ x ∈ out, 0 ≤ x ∧ x < (k : Int)) ∧ Reach U start out := by
    intro d
    induction d with
    | zero =>
      intro pre post n hd hnd hrg hst hcl hle hfn
      have hlen := nodup_len k _ hnd hrg
      rw [List.length_append] at hlen
      obtain rfl : post = [] := List.eq_nil_of_length_eq_zero (by omega)
      rw [List.append_nil] at *
      obtain ⟨n, rfl⟩ : ∃ m, n = m + 1 := ⟨n - 1, by omega⟩
      exact ⟨pre, n, by omega, hend n pre, hnd, hrg, ⟨hst, hcl, hle⟩⟩
    | succ d ih =>
      intro pre post n hd hnd hrg hst hcl hle hfn
      have hlen := nodup_len k _ hnd hrg
      cases post with
      | nil =>
        rw [List.append_nil] at *
        obtain ⟨n, rfl⟩ : ∃ m, n = m + 1 := ⟨n - 1, by omega⟩
        exact ⟨pre, n, by omega, hend n pre, hnd, hrg, ⟨hst, hcl, hle⟩⟩
      | cons x post =>
        rw [Nat.mul_succ] at hfn
        obtain ⟨n, rfl⟩ : ∃ m, n = m + c := ⟨n - c, by omega⟩
        have hx := hrg x (by simp)
        obtain ⟨m, hm, e⟩ := hstep n (pre ++ x :: post) pre post x rfl hx hlen
        obtain ⟨t, ht⟩ := addAll_pre (ys := U x) (out := pre ++ x :: post)
        have e2 : addAll (pre ++ x :: post) (U x) = (pre ++ [x]) ++ (post ++ t) := by rw [ht]; simp
        have hmem : ∀ z, z ∈ (pre ++ [x]) ++ (post ++ t) ↔ z ∈ pre ++ x :: post ∨ z ∈ U x := fun z => by rw [← e2]; exact addAll_mem
        obtain ⟨o', m', hm', this⟩ := ih (pre ++ [x]) (post ++ t) m (by simp; omega) (by rw [← e2]; exact addAll_nodup hnd) (fun z hz => by
          rcases (hmem z).1 hz with h | h
          · exact hrg z h
          · exact hU x hx z h) (fun z hz => (hmem z).2 (.inl (hst z hz))) (fun z hz y hy => by
          rw [hmem]
          rcases List.mem_append.1 hz with h | h
          · exact .inl (hcl z h y hy)
          · rw [List.mem_singleton] at h; subst h; exact .inr hy) (fun S h1 h2 z hz => by
          rcases (hmem z).1 hz with h | h
          · exact hle S h1 h2 z h
          · exact h2 x (hle S h1 h2 x (by simp)) z h) (by omega)
        rw [e, e2]
        rw [show ((List.length pre + 1 : Nat) : Int) = ((List.length (pre ++ [x]) : Nat) : Int) by simp]
        exact ⟨o', m', by rw [Nat.mul_succ]; omega, this⟩
  have hlen := nodup_len k _ hn hr
  have := loop k [] start n (by simp) (by simpa using hn) (by simpa using hr) (by simp) (by simp) (fun S h1 h2 x hx => h1 x (by simpa using hx)) hf
  simpa using this
theorem bfs {β : Type} {F : Nat → List Int → Int → Option β} {R : List Int → Option β} (U : Int → List Int) (k c : Nat) (hU : ∀ x, 0 ≤ x ∧ x < (k : Int) → ∀ y ∈ U x, 0 ≤ y ∧ y < (k : Int))
    (hstep : ∀ (n : Nat) (out pre post : List Int) (x : Int), out = pre ++ x :: post → 0 ≤ x ∧ x < (k : Int) → out.length ≤ k → ∃ m, n ≤ m ∧ F (n + c) out ((List.length pre : Nat) : Int) = F m (addAll out (U x)) ((List.length pre + 1 : Nat) : Int))
    (hend : ∀ (n : Nat) (out : List Int), F (n + 1) out ((List.length out : Nat) : Int) = R out)
    (start : List Int) (hn : start.Nodup) (hr : ∀ x ∈ start, 0 ≤ x ∧ x < (k : Int)) (n : Nat) (hf : c * k + 1 ≤ n) :
    ∃ out, F n start 0 = R out ∧ out.Nodup ∧ (∀ x ∈ out, 0 ≤ x ∧ x < (k : Int)) ∧ Reach U start out := by
  obtain ⟨out, m, -, h⟩ := bfsN (R := fun _ => R) U k c hU hstep hend start hn hr n hf
  exact ⟨out, h⟩
/-- On a circle: among what is reached from what it names; named by something that it reaches. -/
theorem circle_iff {U : Int → List Int} {d : Int} {a c : List Int} (ha : Reach U [d] a) (hc : Reach U (U d) c) : d ∈ c ↔ ∃ x ∈ a, d ∈ U x := by
  have hda : d ∈ a := ha.start d (by simp)
  constructor
  · intro h
    refine Classical.byContradiction fun hno => ?_
    have key := hc.least (fun y => y ∈ a ∧ y ≠ d) (fun x hx => ⟨ha.closed d hda x hx, by rintro rfl; exact hno ⟨x, hda, hx⟩⟩)
      (fun x hx y hy => ⟨ha.closed x hx.1 y hy, by rintro rfl; exact hno ⟨x, hx.1, hy⟩⟩) d h
    exact key.2 rfl
  · rintro ⟨x, hx, hd⟩
    have key := ha.least (fun y => y = d ∨ y ∈ c) (fun y hy => .inl (by simpa using hy)) (fun y hy z hz => by
      rcases hy with rfl | hy
      · exact .inr (hc.start z hz)
      · exact .inr (hc.closed y hy z hz)) x hx
    rcases key with rfl | h
    · exact hc.start x hd
    · exact hc.closed x h d hd
/-- One round: all that the numbers name is put to them. -/
def round (U : Int → List Int) (l : List Int) : List Int := l.foldl (fun o x => putIs o (U x)) l
theorem fold_mem {U : Int → List Int} {z : Int} : ∀ {xs o : List Int}, z ∈ xs.foldl (fun o x => putIs o (U x)) o ↔ z ∈ o ∨ ∃ x ∈ xs, z ∈ U x
  | [], o => by simp
  | x :: xs, o => by
    rw [List.foldl_cons, fold_mem, putIs_mem]
    constructor
    · rintro ((h | h) | ⟨y, h1, h2⟩)
      · exact .inl h
      · exact .inr ⟨x, by simp, h⟩
      · exact .inr ⟨y, by simp [h1], h2⟩
    · rintro (h | ⟨y, h1, h2⟩)
      · exact .inl (.inl h)
      · rcases List.mem_cons.1 h1 with rfl | h1
        · exact .inl (.inr h2)
        · exact .inr ⟨y, h1, h2⟩
theorem fold_rise {U : Int → List Int} : ∀ {xs o : List Int}, Rise o → Rise (xs.foldl (fun o x => putIs o (U x)) o)
  | [], o, h => h
  | x :: xs, o, h => by rw [List.foldl_cons]; exact fold_rise (putIs_rise h)
theorem rise_grow : ∀ {a b : List Int}, Rise a → Rise b → (∀ x ∈ a, x ∈ b) → (∃ y ∈ b, y ∉ a) → a.length + 1 ≤ b.length := by
  intro a b ha hb hs ⟨y, hy, hya⟩
  -- b without y still has all of a
  have hn := rise_nodup hb
  have h1 : ∀ (a c : List Int), a.Nodup → (∀ x ∈ a, x ∈ c) → a.length ≤ c.length := by
    intro a
    induction a with
    | nil => intro c _ _; simp
    | cons x a ih =>
      intro c hnd hsub
      obtain ⟨hx, hnd'⟩ := List.nodup_cons.1 hnd
      have hxc := hsub x (by simp)
      have := ih (c.erase x) hnd' fun z hz => (List.mem_erase_of_ne (by rintro rfl; exact hx hz)).2 (hsub z (by simp [hz]))
      rw [List.length_erase_of_mem hxc] at this
      have := List.length_pos_of_mem hxc
      rw [List.length_cons]; omega
  have h2 := h1 a (b.erase y) (rise_nodup ha) fun z hz => (List.mem_erase_of_ne (by rintro rfl; exact hya hz)).2 (hs z hz)
  rw [List.length_erase_of_mem hy] at h2
  have := List.length_pos_of_mem hy
  omega
def rounds (U : Int → List Int) : Nat → List Int → List Int
  | 0, l => l
  | j + 1, l => rounds U j (round U l)
theorem rounds_succ (U : Int → List Int) : ∀ (j : Nat) (l : List Int), rounds U (j + 1) l = round U (rounds U j l)
  | 0, _ => rfl
  | j + 1, l => by rw [rounds, rounds_succ U j, rounds]
theorem rounds_reach (U : Int → List Int) (k : Nat) (hU : ∀ x, 0 ≤ x ∧ x < (k : Int) → ∀ y ∈ U x, 0 ≤ y ∧ y < (k : Int)) (m : Int) (hm : 0 ≤ m ∧ m < (k : Int)) :
    Rise (rounds U k [m]) ∧ (∀ x ∈ rounds U k [m], 0 ≤ x ∧ x < (k : Int)) ∧ Reach U [m] (rounds U k [m]) := by
  have rmem : ∀ {l : List Int} {z : Int}, z ∈ round U l ↔ z ∈ l ∨ ∃ x ∈ l, z ∈ U x := fun {l z} => fold_mem
  have key : ∀ j, Rise (rounds U j [m]) ∧ (∀ x ∈ rounds U j [m], 0 ≤ x ∧ x < (k : Int)) ∧ m ∈ rounds U j [m] ∧
      (∀ S : Int → Prop, S m → (∀ x, S x → ∀ y ∈ U x, S y) → ∀ x ∈ rounds U j [m], S x) ∧ ((∀ x ∈ rounds U j [m], ∀ y ∈ U x, y ∈ rounds U j [m]) ∨ j + 1 ≤ (rounds U j [m]).length) := by
    intro j
    induction j with
    | zero => exact ⟨by simp [rounds], by simpa [rounds] using hm, by simp [rounds], fun S h1 _ x hx => by simp [rounds] at hx; rw [hx]; exact h1, .inr (by simp [rounds])⟩
    | succ j ih =>
      obtain ⟨h1, h2, h3, h4, h5⟩ := ih
      rw [rounds_succ]
      generalize rounds U j [m] = l at *
      refine ⟨fold_rise h1, fun x hx => ?_, rmem.2 (.inl h3), fun S s1 s2 x hx => ?_, ?_⟩
      · rcases rmem.1 hx with h | ⟨y, hy, h⟩
        · exact h2 x h
        · exact hU y (h2 y hy) x h
      · rcases rmem.1 hx with h | ⟨y, hy, h⟩
        · exact h4 S s1 s2 x h
        · exact s2 y (h4 S s1 s2 y hy) x h
      · by_cases hc : ∀ x ∈ l, ∀ y ∈ U x, y ∈ l
        · refine .inl fun x hx y hy => rmem.2 ?_
          have hxl : x ∈ l := by
            rcases rmem.1 hx with h | ⟨z, hz, h⟩
            · exact h
            · exact hc z hz x h
          exact .inl (hc x hxl y hy)
        · refine .inr ?_
          have h6 := h5.resolve_left hc
          have : ∃ y ∈ round U l, y ∉ l := by
            refine Classical.byContradiction fun hno => hc fun x hx y hy => Classical.byContradiction fun hyl => hno ⟨y, rmem.2 (.inr ⟨x, hx, hy⟩), hyl⟩
          have := rise_grow h1 (fold_rise h1) (fun x hx => rmem.2 (.inl hx)) this
          show j + 1 + 1 ≤ (round U l).length
          unfold round
          omega
  obtain ⟨h1, h2, h3, h4, h5⟩ := key k
  refine ⟨h1, h2, ⟨fun x hx => by rw [List.mem_singleton] at hx; rw [hx]; exact h3, ?_, fun S s1 s2 => h4 S (s1 m (by simp)) s2⟩⟩
  rcases h5 with h | h
  · exact h
  · have := nodup_len k _ (rise_nodup h1) h2
    omega
end Go.Proofs.Ytffokcfdkkikmaa.Ab
