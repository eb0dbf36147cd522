/-
  Labelled terms: the law on ValidLabelled. No program is in sight.
-/
import Derived.Test.YtgigfdghecdlgaaPlC
import Derived.Test.YtgigfdghecdlgaaPlStr
import Derived.Test.YtgigfdghecdlgaaPlLeft
import Derived.Test.YtgigfdghecdlgaaPlBs
namespace Go.Proofs.Ytgigfdghecdlgaa.Ab
set_option linter.unusedVariables false
set_option linter.unusedSimpArgs false
open Go.RowKit

theorem containsStr (l : List ByteArray) (f : ByteArray → Option Bool) (p : ByteArray → Bool) (hl : l.length ≤ Big) (hf : ∀ x ∈ l, f x = some (p x)) : g_ContainsFunc_sstring l f = some (l.any p) := by
  obtain ⟨i, h1, h2, -⟩ := indexFunc_go g_IndexFunc_sstring_l1 (fun n l i f => by rw [g_IndexFunc_sstring_l1]) l f p hl hf
  unfold g_ContainsFunc_sstring g_IndexFunc_sstring
  rw [h1, bind_some']
  congr 1
  rw [Bool.eq_iff_iff, decide_eq_true_eq]; exact h2
def textsFit (l : List ByteArray) : Bool := l.all fun s => decide (s.size ≤ 3000)
theorem labelsFit_eq (l : List ByteArray) (hl : l.length ≤ Big) : i_labelsFit l = some (textsFit l) := by
  unfold i_labelsFit textsFit
  rw [containsStr l _ (fun s => decide (3000 < ((ByteArray.size s : Nat) : Int))) hl (fun s _ => by unfold i_labelsFit_1; rfl), bind_some', List.not_any_eq_all_not]
  congr 2
  funext s
  rw [Bool.eq_iff_iff]; simp; omega
theorem l38Texts_eq (l : List ByteArray) (hl : l.length ≤ Big) : s_l38Texts l = some (textsFit l) := by
  unfold s_l38Texts textsFit
  have loop : ∀ (post pre : List ByteArray) (n : Nat), l = pre ++ post → post.length < n → s_l38Texts_l1 n l ((List.length pre : Nat) : Int) = some (post.all fun s => decide (s.size ≤ 3000)) := by
    intro post
    induction post with
    | nil =>
      intro pre n h hn
      obtain ⟨n, rfl⟩ : ∃ m, n = m + 1 := ⟨n - 1, by omega⟩
      rw [s_l38Texts_l1, ge_app h]; rfl
    | cons x post ih =>
      intro pre n h hn
      obtain ⟨n, rfl⟩ : ∃ m, n = m + 1 := ⟨n - 1, by omega⟩
      rw [s_l38Texts_l1, if_pos (lt_app h), at_app h, bind_some', List.all_cons]
      by_cases hx : x.size ≤ 3000
      · rw [if_neg (by simp; omega), wrap_app h hl, ih (pre ++ [x]) n (next_app h) (by simp at hn; omega)]
        simp [hx]
      · rw [if_pos (by simp; omega)]; simp [hx]
  exact loop l [] fuel (by simp) (by rw [fuel_eq]; unfold Big at hl; omega)

/-! ### Erased terms, sizes counted down -/
def boxLet (c : Core) : Bool := decide (c.kind = 6) || decide (c.kind = 7)
theorem l06Erased_eq : ∀ (c : Core), c.Small → ∀ n, 16 * c.nodes ≤ n → s_l06Erased n c = some (!c.anyC boxLet) := by
  refine Core.ind fun c ih hs n hn => ?_
  obtain ⟨_, hdl, hk, hf⟩ := hs
  rw [Core.nodes_eq] at hn
  rw [Core.anyC_eq]
  obtain ⟨n, rfl⟩ : ∃ m, n = m + 1 := ⟨n - 1, by omega⟩
  obtain ⟨n, rfl⟩ : ∃ m, n = m + 1 := ⟨n - 1, by omega⟩
  rw [s_l06Erased]
  have loop : ∀ (post pre : List Core) (n : Nat), c.kids = pre ++ post → 16 * Core.nodess post + 1 ≤ n → s_l06Erased_l2 n c ((List.length pre : Nat) : Int) = some (!Core.anysC boxLet post) := by
    intro post
    induction post with
    | nil =>
      intro pre n h hn
      obtain ⟨n, rfl⟩ : ∃ m, n = m + 1 := ⟨n - 1, by omega⟩
      rw [s_l06Erased_l2, ge_app h, if_neg (by simp), Core.anysC]; rfl
    | cons x post ihp =>
      intro pre n h hn
      rw [Core.nodess] at hn
      have := x.nodes_pos
      obtain ⟨n, rfl⟩ : ∃ m, n = m + 1 := ⟨n - 1, by omega⟩
      have hx : x ∈ c.kids := by rw [h]; simp
      rw [s_l06Erased_l2, if_pos (lt_app h), at_app h, bind_some', ih x hx (hf x hx) n (by omega), bind_some', Core.anysC]
      cases x.anyC boxLet with
      | true => simp
      | false =>
        rw [if_neg (by simp), wrap_app h hk, ihp (pre ++ [x]) n (next_app h) (by omega)]
        simp
  have hj : ∀ b, s_l06Erased_j1 (n + 1) c b = some (!(b || Core.anysC boxLet c.kids)) := by
    intro b
    rw [s_l06Erased_j1]
    cases b with
    | true => simp
    | false =>
      rw [if_neg (by simp)]
      exact loop c.kids [] n (by simp) (by omega)
  rw [hj, hj]
  unfold boxLet
  by_cases h1 : c.kind = 6 <;> simp [h1]
theorem IsErased_eq (c : Core) (hs : c.Small) (hN : c.nodes ≤ Big) : i_IsErased c = some (c.valid && !c.anyC boxLet) := by
  unfold i_IsErased
  rw [ValidCore_eq c hs hN, bind_some', anyCore_eq _ boxLet c hs (fun x hx => by unfold i_IsErased_1 boxLet; by_cases h : x.kind = 6 <;> simp [h]) fuel (by have := fuel_nodes hN; omega), bind_some']
  cases c.valid <;> simp

/-! ### The law -/
def Labelled.valid (x : Labelled) : Bool := x.term.closed && !x.term.anyC boxLet && decide (x.term.nodes = x.labels.length) && textsFit x.labels
theorem closed_valid {c : Core} (h : c.closed = true) : c.valid = true := by
  unfold Core.closed at h
  simp only [Bool.and_eq_true] at h
  exact h.1
theorem iValidLabelled_eq (x : Labelled) (hs : x.term.Small) (hN : x.term.nodes ≤ Big) (hl : x.labels.length ≤ Big) : i_ValidLabelled x = some x.valid := by
  unfold i_ValidLabelled Labelled.valid
  rw [IsClosed_eq _ hs hN, bind_some', IsErased_eq _ hs hN, bind_some', CoreSize_eq _ hs hN, bind_some', labelsFit_eq _ hl, bind_some']
  cases hc : x.term.closed with
  | false => simp
  | true =>
    rw [if_pos rfl, closed_valid hc]
    cases x.term.anyC boxLet with
    | true => simp
    | false =>
      rw [if_pos (by simp), if_pos rfl]
      by_cases he : x.term.nodes = x.labels.length
      · rw [if_pos (by simp; omega)]; simp [he]
      · rw [if_neg (by simp; omega)]; simp [he]
theorem szLabelled_eq (x : Labelled) (hf : x.term.Fits) (hl : x.labels.length ≤ 9223372036854775807) (hs : ∀ s ∈ x.labels, s.size ≤ 9223372036854775807) : l_szLabelled x 1048576 = some (szr (x.term.sz + (x.labels.length + strSz x.labels)) 1048576) := by
  unfold l_szLabelled
  have := szCore_eq x.term hf 1048576 fuel (by omega) (by rw [fuel_eq]; omega)
  rw [show ((1048576 : Nat) : Int) = 1048576 from rfl] at this
  rw [this, bind_some', szr_neg]
  by_cases h : 1048576 < x.term.sz
  · rw [if_pos (by simpa using h), szr_gt (by omega)]
  · rw [if_neg (by simpa using h), szr_le (by omega), szStringS_eq _ _ (by omega) hl hs, bind_some', szr_neg]
    by_cases h2 : 1048576 - x.term.sz < x.labels.length + strSz x.labels
    · rw [if_pos (by simpa using h2), szr_gt (by omega)]
    · rw [if_neg (by simpa using h2), szr_le (by omega), szr_le (by omega)]; congr 2; omega
end Go.Proofs.Ytgigfdghecdlgaa.Ab
