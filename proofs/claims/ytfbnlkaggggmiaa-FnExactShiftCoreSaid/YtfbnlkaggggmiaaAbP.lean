/-
  The abstract walk, sixteenth part: a region whose order is drawn.
-/
import Derived.Test.YtfbnlkaggggmiaaAbO
namespace Go.Proofs.Ytfbnlkaggggmiaa.Ab
set_option linter.unusedVariables false
set_option linter.unusedSimpArgs false
open Go.RowKit

theorem drawOk_spec {ops : Array Oper} (h : drawOk ops = true) :
    (∀ i o, ops.toList[i]? = some o → ∀ e ∈ o.after, Region.binds .any e = true → e.on < i) ∧
    (∀ i j x y, i < headN ops.toList → j < i → ops.toList[i]? = some x → ops.toList[j]? = some y → (∀ d, x.dst = some d → y.dst ≠ some d) ∧ (touch ops x y = true → ((deps ops.toList).getD i 0).testBit j = true)) ∧
    (∀ t, headN ops.toList ≤ t → t < ops.toList.length → ∀ i, i < t → ((deps ops.toList).getD t 0).testBit i = true) ∧ (∀ o ∈ ops.toList.take (headN ops.toList), isEff o = false) := by
  unfold drawOk at h
  simp only [Bool.and_eq_true, List.all_eq_true] at h
  obtain ⟨⟨⟨h1, h0⟩, h2⟩, h3⟩ := h
  refine ⟨fun i o ho e he hb => ?_, fun i j x y hi hj hx hy => ?_, fun t ht htl i hi => ?_, fun o ho => by simpa using h0 o ho⟩
  · have hm : (o, i) ∈ ops.toList.zipIdx := by
      rw [List.mem_zipIdx_iff_getElem?]; exact ho
    have := h1 (o, i) hm
    simp only [Array.all_eq_true_iff_forall_mem] at this
    have := this e he
    simpa [hb] using this
  · have := h2 i (List.mem_range.2 hi) j (List.mem_range.2 hj)
    rw [hx, hy] at this
    simp only [Bool.and_eq_true, Bool.or_eq_true, Bool.not_eq_true'] at this
    refine ⟨fun d hd hd' => ?_, fun ht => ?_⟩
    · have := this.1
      rw [hd, hd'] at this
      simp at this
    · rcases this.2 with h | h
      · rw [ht] at h; cases h
      · exact h
  · have := h3 t (List.mem_range.2 htl)
    simp only [Bool.or_eq_true, decide_eq_true_eq, List.all_eq_true, List.mem_range] at this
    rcases this with h | h
    · omega
    · exact h i hi
theorem headN_le (l : List Oper) : headN l ≤ l.length := Nat.min_le_left _ _

theorem cnt_set {listed : Array Bool} {i : Nat} (hi : i < listed.size) (h : listed.getD i true = false) : ((listed.setIfInBounds i true).toList.count false) + 1 = listed.toList.count false := by
  have h' : listed.toList[i]? = some false := by
    rw [Array.getElem?_toList, Array.getElem?_eq_getElem hi]
    rw [Array.getD_eq_getD_getElem?, Array.getElem?_eq_getElem hi] at h
    simpa using h
  have hlt : i < listed.toList.length := lt_of_get h'
  rw [Array.toList_setIfInBounds]
  have e1 : listed.toList = listed.toList.take i ++ listed.toList[i] :: listed.toList.drop (i + 1) := by rw [← List.drop_eq_getElem_cons hlt, List.take_append_drop]
  rw [List.set_eq_take_append_cons_drop, if_pos hlt]
  conv => rhs; rw [e1]
  rw [List.getElem?_eq_getElem hlt] at h'
  simp only [Option.some.injEq] at h'
  rw [h']
  simp [List.count_append, List.count_cons]
  omega
theorem cnt_zero {listed : Array Bool} (h : listed.toList.count false = 0) {i : Nat} (hi : i < listed.size) : listed.getD i true = true := by
  rw [Array.getD_eq_getD_getElem?, Array.getElem?_eq_getElem hi, Option.getD_some]
  cases hx : listed[i] with
  | true => rfl
  | false =>
    exfalso
    have : false ∈ listed.toList := by rw [← hx]; exact Array.mem_toList_iff.2 (Array.getElem_mem hi)
    exact List.count_eq_zero.1 h this
theorem cnt_pos {listed : Array Bool} (h : 0 < listed.toList.count false) : ∃ i, i < listed.size ∧ listed.getD i true = false := by
  have := List.count_pos_iff.1 h
  obtain ⟨i, hi, hx⟩ := List.getElem_of_mem this
  refine ⟨i, by simpa using hi, ?_⟩
  rw [Array.getD_eq_getD_getElem?, ← Array.getElem?_toList, List.getElem?_eq_getElem hi, hx]; rfl

section
variable {cx : Cx} {N : Nat} {ops : Array Oper}
/-- Where the drawing stands: these are listed, and what they wait for, too. -/
structure Lst (ops : Array Oper) (listed : Array Bool) : Prop where
  size : listed.size = ops.size
  closed : Closed ops.toList fun j => listed.getD j false = true
theorem Lst.set {listed : Array Bool} (h : Lst ops listed) {i : Nat} (hr : i ∈ Region.ready .any ops listed) : Lst ops (listed.setIfInBounds i true) := by
  obtain ⟨h0, o, ho, hall⟩ := mem_ready.1 hr
  refine ⟨by simp [h.size], fun j oj hj hl e he hb => ?_⟩
  by_cases hij : i = j
  · subst hij
    rw [Array.getElem?_toList, ho] at hj; cases hj
    exact getD_set_true (hall e he hb)
  · have hl' : (listed.setIfInBounds i true).getD j false = true := hl
    rw [getD_set_ne false hij] at hl'
    exact getD_set_true (h.closed j oj hj hl' e he hb)
/-- What is ready has all that it waits for, near and far. -/
theorem Lst.far {listed : Array Bool} (h : Lst ops listed) {i : Nat} (hr : i ∈ Region.ready .any ops listed) {j : Nat} (hj : ((deps ops.toList).getD i 0).testBit j = true) : listed.getD j false = true := by
  obtain ⟨h0, o, ho, hall⟩ := mem_ready.1 hr
  have hi : i < ops.toList.length := by rw [Array.length_toList]; exact (Array.getElem?_eq_some_iff.1 ho).1
  exact deps_spec ops.toList i hi _ h.closed (fun o' ho' e he hb => by
    rw [Array.getElem?_toList, ho] at ho'; cases ho'; exact hall e he hb) j hj
theorem Lst.far' {listed : Array Bool} (h : Lst ops listed) {i : Nat} (hi : i < ops.size) (hl : listed.getD i false = true) {j : Nat} (hj : ((deps ops.toList).getD i 0).testBit j = true) : listed.getD j false = true := by
  have hi' : i < ops.toList.length := by rw [Array.length_toList]; exact hi
  exact deps_spec ops.toList i hi' _ h.closed (fun o' ho' e he hb => h.closed i o' ho' hl e he hb) j hj
/-- Something is ready, as long as something is not listed. -/
theorem Lst.some_ready (hon : ∀ i o, ops.toList[i]? = some o → ∀ e ∈ o.after, Region.binds .any e = true → e.on < i) {listed : Array Bool} (h : Lst ops listed) (hc : 0 < listed.toList.count false) : Region.ready .any ops listed ≠ [] := by
  obtain ⟨i, hi, hl⟩ := cnt_pos hc
  have key : ∀ n i, i < n → i < listed.size → listed.getD i true = false → ∃ k, k ∈ Region.ready .any ops listed := by
    intro n
    induction n with
    | zero => intro i h; omega
    | succ n ih =>
      intro i hin hi hl
      by_cases hall : ∀ o, ops[i]? = some o → ∀ e ∈ o.after, Region.binds .any e = true → listed.getD e.on false = true
      · have hi' : i < ops.size := by rw [← h.size]; exact hi
        have ho : ops[i]? = some ops[i] := Array.getElem?_eq_getElem hi'
        exact ⟨i, mem_ready.2 ⟨hl, _, ho, hall _ ho⟩⟩
      · simp only [Classical.not_forall] at hall
        obtain ⟨o, ho, e, he, hb, hne⟩ := hall
        have hlt := hon i o (by rw [Array.getElem?_toList]; exact ho) e he hb
        have he' : e.on < listed.size := by omega
        refine ih e.on (by omega) he' ?_
        rw [Array.getD_eq_getD_getElem?, Array.getElem?_eq_getElem he', Option.getD_some] at hne ⊢
        simpa using hne
  obtain ⟨k, hk⟩ := key (i + 1) i (by omega) hi hl
  exact fun e => by rw [e] at hk; cases hk

/-- The tail: one after another. -/
theorem tail_sound {Q : Exit → Act → World → Prop} {base cut : Nat} {K : St → Prop} (hok : ∀ o ∈ ops.toList, operOk N o = true)
    (hon : ∀ i o, ops.toList[i]? = some o → ∀ e ∈ o.after, Region.binds .any e = true → e.on < i) (htl : ∀ t, headN ops.toList ≤ t → t < ops.toList.length → ∀ i, i < t → ((deps ops.toList).getD t 0).testBit i = true)
    (hk : ∀ σ' a' w', K σ' → SimE cx N σ' a' w' → Q .normal a' w') :
    ∀ (fuel : Nat) (m : Nat) (listed : Array Bool) (σ : St) (a : Act) (w : World), Lst ops listed → headN ops.toList ≤ m → m + fuel = ops.size → (∀ j, j < ops.size → (listed.getD j false = true ↔ j < m)) →
      aops cx.P ops base cut m (ops.toList.drop m) σ K → SimE cx N σ a w → wpAny cx.P .any ops Q fuel listed a w
  | 0, m, listed, σ, a, w, hL, hm, hf, hl, h, hs => by
    have hd : ops.toList.drop m = [] := List.drop_eq_nil_of_le (by rw [Array.length_toList]; omega)
    rw [hd] at h
    refine ⟨?_, hk σ a w h hs⟩
    refine List.eq_nil_iff_forall_not_mem.2 fun i hi => ?_
    obtain ⟨h0, o, ho, -⟩ := mem_ready.1 hi
    have hilt := (Array.getElem?_eq_some_iff.1 ho).1
    have h1 := (hl i hilt).2 (by omega)
    rw [Array.getD_eq_getD_getElem?, Array.getElem?_eq_getElem (by rw [hL.size]; exact hilt), Option.getD_some] at h0 h1
    rw [h1] at h0; cases h0
  | fuel + 1, m, listed, σ, a, w, hL, hm, hf, hl, h, hs => by
    have hmlt : m < ops.size := by omega
    have honly : ∀ i ∈ Region.ready .any ops listed, i = m := fun i hi => by
      obtain ⟨h0, o, ho, -⟩ := mem_ready.1 hi
      have hilt := (Array.getElem?_eq_some_iff.1 ho).1
      have hge : m ≤ i := by
        rcases Nat.lt_or_ge i m with h' | h'
        · have h1 := (hl i hilt).2 h'
          rw [Array.getD_eq_getD_getElem?, Array.getElem?_eq_getElem (by rw [hL.size]; exact hilt), Option.getD_some] at h0 h1
          rw [h1] at h0; cases h0
        · exact h'
      rcases Nat.eq_or_lt_of_le hge with e | hlt
      · exact e.symm
      · have h1 := hL.far hi (htl i (by omega) (by rw [Array.length_toList]; exact hilt) m hlt)
        have := (hl m hmlt).1 h1
        omega
    have hcount : 0 < listed.toList.count false := by
      refine List.count_pos_iff.2 ?_
      have h1 : listed.getD m false ≠ true := fun h1 => by have := (hl m hmlt).1 h1; omega
      have hms : m < listed.size := by rw [hL.size]; exact hmlt
      rw [Array.getD_eq_getD_getElem?, Array.getElem?_eq_getElem hms, Option.getD_some] at h1
      have h2 : listed[m] = false := by simpa using h1
      rw [← h2]; exact Array.mem_toList_iff.2 (Array.getElem_mem hms)
    refine ⟨fun h0 => absurd h0 (hL.some_ready hon hcount), fun i hi => ?_⟩
    obtain rfl := honly i hi
    have hlen : i < ops.toList.length := by rw [Array.length_toList]; exact hmlt
    have ho : ops[i]? = some ops.toList[i] := by rw [← Array.getElem?_toList, List.getElem?_eq_getElem hlen]
    rw [List.drop_eq_getElem_cons hlen] at h
    have hoo := hok ops.toList[i] (List.getElem_mem hlen)
    have hL' := hL.set hi
    have hl' : ∀ j, j < ops.size → ((listed.setIfInBounds i true).getD j false = true ↔ j < i + 1) := fun j hj => by
      by_cases e : i = j
      · subst e
        have : (listed.setIfInBounds i true).getD i false = true := by
          rw [Array.getD_eq_getD_getElem?, Array.getElem?_setIfInBounds_self]
          rw [if_pos (by rw [hL.size]; exact hj)]; rfl
        exact ⟨fun _ => by omega, fun _ => this⟩
      · rw [getD_set_ne false e, hl j hj]
        omega
    have next : ∀ σ' a' w', aops cx.P ops base cut (i + 1) (ops.toList.drop (i + 1)) σ' K → SimE cx N σ' a' w' → wpAny cx.P .any ops Q fuel (listed.setIfInBounds i true) a' w' := fun σ' a' w' h' hs' =>
      tail_sound hok hon htl hk fuel (i + 1) _ σ' a' w' hL' (by omega) (by omega) hl' h' hs'
    unfold wpOp
    rw [ho]
    simp only
    generalize ops.toList[i] = o at *
    obtain ⟨γ, hs⟩ := hs
    unfold aops at h
    split at h
    · rename_i hg
      rw [if_pos (by simp [Region.wanted, hg])]
      exact .inl (opL_sound hs hoo h next)
    · rename_i j want hg
      obtain ⟨s, hj, h⟩ := h
      rcases h with ⟨b, hb, h1, h2⟩ | ⟨hb, h2⟩
      case inr =>
        have hy := yielded_no hs hj hb
        rw [if_neg (by simp [Region.wanted, hg, hy])]
        exact next _ _ _ h2 ⟨γ, hs.putU (operOk_dst hoo)⟩
      case inl =>
        have hy := yielded_of hs hj hb
        have hput : ∀ c, b = c → Sim cx N γ (σ.put (some s) (.bool c)) a w := fun c e => by
          subst e
          have hg' : ∀ i, (σ.put (some s) (.bool b)).g i = σ.g i := fun i => by
            rw [St.g_put]; split
            · rename_i e; cases e; exact hb.symm
            · rfl
          exact ⟨hs.os, fun i => by rw [hg']; exact hs.sl i, hs.td, hs.bd, hs.df, hs.n⟩
        by_cases hbw : b = want
        · rw [if_pos (by simp [Region.wanted, hg, hy, hbw])]
          exact .inl (opL_sound (hput want hbw) hoo (h1 hbw) next)
        · have hbn : b = !want := by cases b <;> cases want <;> simp_all
          rw [if_neg (by simp [Region.wanted, hg, hy, hbw])]
          exact next _ _ _ (h2 hbn) ⟨γ, (hput (!want) hbn).putU (operOk_dst hoo)⟩
end
end Go.Proofs.Ytfbnlkaggggmiaa.Ab
