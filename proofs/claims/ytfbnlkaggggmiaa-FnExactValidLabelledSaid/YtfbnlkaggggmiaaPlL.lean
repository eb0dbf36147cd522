/-
  Labelled terms: the law on ValidLabelled. No program is in sight.
-/
import Derived.Test.YtfbnlkaggggmiaaPlE
namespace Go.Proofs.Ytfbnlkaggggmiaa.Ab
set_option linter.unusedVariables false
set_option linter.unusedSimpArgs false
open Go.RowKit

/-! ### Lists of texts -/
def strSz : List ByteArray → Nat
  | [] => 0
  | s :: l => s.size + strSz l
theorem szStringS_eq (l : List ByteArray) (left : Nat) (h1 : left ≤ 1048576) (h2 : l.length ≤ 9223372036854775807) (h3 : ∀ s ∈ l, s.size ≤ 9223372036854775807) : l_szStringS l left = some (szr (l.length + strSz l) left) := by
  unfold l_szStringS
  rw [sub_len h1 h2]
  by_cases h : l.length ≤ left
  · rw [if_neg (by simp; omega)]
    have loop : ∀ (post pre : List ByteArray) (n l3 : Nat), l = pre ++ post → l3 ≤ left → post.length < n → l_szStringS_l1 n l l3 ((List.length pre : Nat) : Int) = some (szr (strSz post) l3) := by
      intro post
      induction post with
      | nil =>
        intro pre n l3 h _ hn
        obtain ⟨n, rfl⟩ : ∃ m, n = m + 1 := ⟨n - 1, by omega⟩
        rw [l_szStringS_l1, ge_app h]
        simp [strSz, szr]
      | cons x post ihp =>
        intro pre n l3 hh h4 hn
        obtain ⟨n, rfl⟩ : ∃ m, n = m + 1 := ⟨n - 1, by omega⟩
        have hx : x ∈ l := by rw [hh]; simp
        rw [l_szStringS_l1, if_pos (lt_app hh), at_app hh, bind_some', sub_len (by omega) (h3 x hx), strSz]
        by_cases h5 : l3 < x.size
        · rw [if_pos (by simp; omega), szr_gt (by omega)]
        · rw [if_neg (by simp; omega), wrap_app hh (by unfold Big; omega), show ((l3 : Int) - (x.size : Int)) = ((l3 - x.size : Nat) : Int) from by omega, ihp (pre ++ [x]) n (l3 - x.size) (next_app hh) (by omega) (by simp at hn; omega)]
          congr 1
          unfold szr
          by_cases h6 : strSz post ≤ l3 - x.size
          · rw [if_pos h6, if_pos (by omega)]; congr 1; omega
          · rw [if_neg h6, if_neg (by omega)]
    have := loop l [] fuel (left - l.length) (by simp) (by omega) (by rw [fuel_eq]; omega)
    rw [show ((left : Int) - (l.length : Int)) = ((left - l.length : Nat) : Int) from by omega]
    rw [show (0 : Int) = ((List.length ([] : List ByteArray) : Nat) : Int) from rfl, this]
    congr 1
    unfold szr
    by_cases h6 : strSz l ≤ left - l.length
    · rw [if_pos h6, if_pos (by omega)]; congr 1; omega
    · rw [if_neg h6, if_neg (by omega)]
  · rw [if_pos (by simp; omega), szr_gt (by omega)]
theorem toStringS_eq (l : List ByteArray) (hl : l.length ≤ Big) : l_toStringS l = some l := by
  have loop : ∀ (post pre : List ByteArray) (n : Nat), l = pre ++ post → post.length < n → l_toStringS_l2 n l (pre ++ List.replicate post.length ByteArray.empty) ((List.length pre : Nat) : Int) = some l := by
    intro post
    induction post with
    | nil =>
      intro pre n h hn
      obtain ⟨n, rfl⟩ : ∃ m, n = m + 1 := ⟨n - 1, by omega⟩
      rw [l_toStringS_l2, ge_app h]; simp [h]
    | cons x post ih =>
      intro pre n h hn
      obtain ⟨n, rfl⟩ : ∃ m, n = m + 1 := ⟨n - 1, by omega⟩
      rw [l_toStringS_l2, if_pos (lt_app h), at_app h, bind_some', List.length_cons, at_rep, bind_some', set_app, wrap_app h hl]
      exact ih (pre ++ [x]) n (next_app h) (by simp at hn; omega)
  unfold l_toStringS
  rw [rep_ok hl, bind_some']
  exact loop l [] fuel (by simp) (by rw [fuel_eq]; unfold Big at hl; omega)
theorem sameStr_self (s : ByteArray) : sameStr s s = true := by unfold sameStr; simp
theorem eqStringS_eq (l : List ByteArray) (hl : l.length ≤ Big) : l_eqStringS l l = some true := by
  unfold l_eqStringS
  rw [if_neg (by simp)]
  have loop : ∀ (post pre : List ByteArray) (n : Nat), l = pre ++ post → post.length < n → l_eqStringS_l1 n l l ((List.length pre : Nat) : Int) = some true := by
    intro post
    induction post with
    | nil =>
      intro pre n h hn
      obtain ⟨n, rfl⟩ : ∃ m, n = m + 1 := ⟨n - 1, by omega⟩
      rw [l_eqStringS_l1, ge_app h]; rfl
    | cons x post ih =>
      intro pre n h hn
      obtain ⟨n, rfl⟩ : ∃ m, n = m + 1 := ⟨n - 1, by omega⟩
      rw [l_eqStringS_l1, if_pos (lt_app h), at_app h, bind_some', bind_some', if_neg (by rw [sameStr_self]; simp), wrap_app h hl]
      exact ih (pre ++ [x]) n (next_app h) (by simp at hn; omega)
  exact loop l [] fuel (by simp) (by rw [fuel_eq]; unfold Big at hl; omega)
theorem containsStr (l : List ByteArray) (f : ByteArray → Option Bool) (p : ByteArray → Bool) (hl : l.length ≤ Big) (hf : ∀ x ∈ l, f x = some (p x)) : g_ContainsFunc_sstring l f = some (l.any p) := by
  obtain ⟨i, h1, h2, -⟩ := indexFunc_go g_IndexFunc_sstring_l1 (fun n l i f => by rw [g_IndexFunc_sstring_l1]) l f p hl hf
  unfold g_ContainsFunc_sstring g_IndexFunc_sstring
  rw [h1, bind_some']
  congr 1
  rw [Bool.eq_iff_iff, decide_eq_true_eq]; exact h2
def textsFit (l : List ByteArray) : Bool := l.all fun s => decide (s.size ≤ 3000)
theorem labelsFit_eq (l : List ByteArray) (hl : l.length ≤ Big) : i_labelsFit l = some (textsFit l) := by
  unfold i_labelsFit textsFit
  rw [containsStr l _ (fun s => decide (3000 < ((ByteArray.size s : Nat) : Int))) hl (fun s _ => by unfold i_labelsFit_1; rfl), bind_some', List.not_any_eq_all_not]
  congr 2
  funext s
  rw [Bool.eq_iff_iff]; simp; omega
theorem l38Texts_eq (l : List ByteArray) (hl : l.length ≤ Big) : s_l38Texts l = some (textsFit l) := by
  unfold s_l38Texts textsFit
  have loop : ∀ (post pre : List ByteArray) (n : Nat), l = pre ++ post → post.length < n → s_l38Texts_l1 n l ((List.length pre : Nat) : Int) = some (post.all fun s => decide (s.size ≤ 3000)) := by
    intro post
    induction post with
    | nil =>
      intro pre n h hn
      obtain ⟨n, rfl⟩ : ∃ m, n = m + 1 := ⟨n - 1, by omega⟩
      rw [s_l38Texts_l1, ge_app h]; rfl
    | cons x post ih =>
      intro pre n h hn
      obtain ⟨n, rfl⟩ : ∃ m, n = m + 1 := ⟨n - 1, by omega⟩
      rw [s_l38Texts_l1, if_pos (lt_app h), at_app h, bind_some', List.all_cons]
      by_cases hx : x.size ≤ 3000
      · rw [if_neg (by simp; omega), wrap_app h hl, ih (pre ++ [x]) n (next_app h) (by simp at hn; omega)]
        simp [hx]
      · rw [if_pos (by simp; omega)]; simp [hx]
  exact loop l [] fuel (by simp) (by rw [fuel_eq]; unfold Big at hl; omega)

/-! ### Erased terms, sizes counted down -/
def boxLet (c : Core) : Bool := decide (c.kind = 6) || decide (c.kind = 7)
theorem l06Erased_eq : ∀ (c : Core), c.Small → ∀ n, 16 * c.nodes ≤ n → s_l06Erased n c = some (!c.anyC boxLet) := by
  refine Core.ind fun c ih hs n hn => ?_
  obtain ⟨_, hdl, hk, hf⟩ := hs
  rw [Core.nodes_eq] at hn
  rw [Core.anyC_eq]
  obtain ⟨n, rfl⟩ : ∃ m, n = m + 1 := ⟨n - 1, by omega⟩
  obtain ⟨n, rfl⟩ : ∃ m, n = m + 1 := ⟨n - 1, by omega⟩
  rw [s_l06Erased]
  have loop : ∀ (post pre : List Core) (n : Nat), c.kids = pre ++ post → 16 * Core.nodess post + 1 ≤ n → s_l06Erased_l2 n c ((List.length pre : Nat) : Int) = some (!Core.anysC boxLet post) := by
    intro post
    induction post with
    | nil =>
      intro pre n h hn
      obtain ⟨n, rfl⟩ : ∃ m, n = m + 1 := ⟨n - 1, by omega⟩
      rw [s_l06Erased_l2, ge_app h, if_neg (by simp), Core.anysC]; rfl
    | cons x post ihp =>
      intro pre n h hn
      rw [Core.nodess] at hn
      have := x.nodes_pos
      obtain ⟨n, rfl⟩ : ∃ m, n = m + 1 := ⟨n - 1, by omega⟩
      have hx : x ∈ c.kids := by rw [h]; simp
      rw [s_l06Erased_l2, if_pos (lt_app h), at_app h, bind_some', ih x hx (hf x hx) n (by omega), bind_some', Core.anysC]
      cases x.anyC boxLet with
      | true => simp
      | false =>
        rw [if_neg (by simp), wrap_app h hk, ihp (pre ++ [x]) n (next_app h) (by omega)]
        simp
  have hj : ∀ b, s_l06Erased_j1 (n + 1) c b = some (!(b || Core.anysC boxLet c.kids)) := by
    intro b
    rw [s_l06Erased_j1]
    cases b with
    | true => simp
    | false =>
      rw [if_neg (by simp)]
      exact loop c.kids [] n (by simp) (by omega)
  rw [hj, hj]
  unfold boxLet
  by_cases h1 : c.kind = 6 <;> simp [h1]
theorem l08Left_eq : ∀ (c : Core), c.Small → ∀ (left n : Nat), left ≤ Big → 16 * c.nodes ≤ n → s_l08Left n c left = some (szr c.nodes left) := by
  refine Core.ind fun c ih hs left n hB hn => ?_
  obtain ⟨_, hdl, hk, hf⟩ := hs
  rw [Core.nodes_eq] at hn ⊢
  obtain ⟨n, rfl⟩ : ∃ m, n = m + 1 := ⟨n - 1, by omega⟩
  obtain ⟨n, rfl⟩ : ∃ m, n = m + 1 := ⟨n - 1, by omega⟩
  rw [s_l08Left, w64 (by omega) (by unfold Big at hB; omega)]
  -- a round that meets a negative number ends
  have stop : ∀ (n : Nat) (pre : List Core), 2 ≤ n → s_l08Left_l3 n c (-1) ((List.length pre : Nat) : Int) = some (-1) := by
    intro n pre hn
    obtain ⟨n, rfl⟩ : ∃ m, n = m + 1 := ⟨n - 1, by omega⟩
    obtain ⟨n, rfl⟩ : ∃ m, n = m + 1 := ⟨n - 1, by omega⟩
    rw [s_l08Left_l3]
    have e : decide ((0 : Int) ≤ -1) = false := by decide
    rw [e]
    split <;> (rw [s_l08Left_j4]; rfl)
  have loop : ∀ (post pre : List Core) (n l3 : Nat), c.kids = pre ++ post → 16 * Core.nodess post + 2 ≤ n → l3 ≤ Big → s_l08Left_l3 n c l3 ((List.length pre : Nat) : Int) = some (szr (Core.nodess post) l3) := by
    intro post
    induction post with
    | nil =>
      intro pre n l3 h hn _
      obtain ⟨n, rfl⟩ : ∃ m, n = m + 1 := ⟨n - 1, by omega⟩
      obtain ⟨n, rfl⟩ : ∃ m, n = m + 1 := ⟨n - 1, by omega⟩
      rw [s_l08Left_l3, ge_app h, if_neg (by simp), s_l08Left_j4]
      simp [Core.nodess, szr]
    | cons x post ihp =>
      intro pre n l3 h hn h3
      rw [Core.nodess] at hn ⊢
      have hp := x.nodes_pos
      obtain ⟨n, rfl⟩ : ∃ m, n = m + 1 := ⟨n - 1, by omega⟩
      obtain ⟨n, rfl⟩ : ∃ m, n = m + 1 := ⟨n - 1, by omega⟩
      have hx : x ∈ c.kids := by rw [h]; simp
      rw [s_l08Left_l3, if_pos (lt_app h), s_l08Left_j4, if_pos (by simp), at_app h, bind_some', ih x hx (hf x hx) l3 n h3 (by omega), bind_some', wrap_app h hk]
      by_cases h5 : x.nodes ≤ l3
      · rw [szr_le h5, ihp (pre ++ [x]) n (l3 - x.nodes) (next_app h) (by omega) (by omega)]
        congr 1
        unfold szr
        by_cases h6 : Core.nodess post ≤ l3 - x.nodes
        · rw [if_pos h6, if_pos (by omega)]; congr 1; omega
        · rw [if_neg h6, if_neg (by omega)]
      · rw [szr_gt (by omega), stop _ _ (by omega), szr_gt (by omega)]
  by_cases h0 : left = 0
  · subst h0
    have := stop (n + 1) [] (by omega)
    refine this.trans ?_
    rw [szr_gt (by omega)]
  · have := loop c.kids [] (n + 1) (left - 1) (by simp) (by omega) (by omega)
    rw [show ((left : Int) - 1) = ((left - 1 : Nat) : Int) from by omega]
    refine this.trans ?_
    congr 1
    unfold szr
    by_cases h6 : Core.nodess c.kids ≤ left - 1
    · rw [if_pos h6, if_pos (by omega)]; congr 1; omega
    · rw [if_neg h6, if_neg (by omega)]
theorem IsErased_eq (c : Core) (hs : c.Small) (hN : c.nodes ≤ Big) : i_IsErased c = some (c.valid && !c.anyC boxLet) := by
  unfold i_IsErased
  rw [ValidCore_eq c hs hN, bind_some', anyCore_eq _ boxLet c hs (fun x hx => by unfold i_IsErased_1 boxLet; by_cases h : x.kind = 6 <;> simp [h]) fuel (by have := fuel_nodes hN; omega), bind_some']
  cases c.valid <;> simp

/-! ### The law -/
def Labelled.valid (x : Labelled) : Bool := x.term.closed && !x.term.anyC boxLet && decide (x.term.nodes = x.labels.length) && textsFit x.labels
theorem closed_valid {c : Core} (h : c.closed = true) : c.valid = true := by
  unfold Core.closed at h
  simp only [Bool.and_eq_true] at h
  exact h.1
theorem iValidLabelled_eq (x : Labelled) (hs : x.term.Small) (hN : x.term.nodes ≤ Big) (hl : x.labels.length ≤ Big) : i_ValidLabelled x = some x.valid := by
  unfold i_ValidLabelled Labelled.valid
  rw [IsClosed_eq _ hs hN, bind_some', IsErased_eq _ hs hN, bind_some', CoreSize_eq _ hs hN, bind_some', labelsFit_eq _ hl, bind_some']
  cases hc : x.term.closed with
  | false => simp
  | true =>
    rw [if_pos rfl, closed_valid hc]
    cases x.term.anyC boxLet with
    | true => simp
    | false =>
      rw [if_pos (by simp), if_pos rfl]
      by_cases he : x.term.nodes = x.labels.length
      · rw [if_pos (by simp; omega)]; simp [he]
      · rw [if_neg (by simp; omega)]; simp [he]
theorem sValidLabelled_eq (x : Labelled) (hs : x.term.Small) (hN : x.term.nodes ≤ Big) (hl : x.labels.length ≤ Big) : s_ValidLabelled x = some x.valid := by
  unfold s_ValidLabelled s_l38Ok Labelled.valid
  rw [l06Closed_eq _ hs hN, bind_some', l06Erased_eq _ hs fuel (fuel_nodes hN), bind_some', l08Left_eq _ hs _ fuel hl (fuel_nodes hN), bind_some', l38Texts_eq _ hl, bind_some']
  cases hc : x.term.closed with
  | false => simp
  | true =>
    rw [if_pos rfl]
    cases x.term.anyC boxLet with
    | true => simp
    | false =>
      rw [if_pos (by simp)]
      by_cases he : x.term.nodes = x.labels.length
      · rw [if_pos (by rw [szr_le (by omega)]; simp; omega)]; simp [he]
      · rw [if_neg (by unfold szr; split <;> simp <;> omega)]; simp [he]
theorem szLabelled_eq (x : Labelled) (hf : x.term.Fits) (hl : x.labels.length ≤ 9223372036854775807) (hs : ∀ s ∈ x.labels, s.size ≤ 9223372036854775807) : l_szLabelled x 1048576 = some (szr (x.term.sz + (x.labels.length + strSz x.labels)) 1048576) := by
  unfold l_szLabelled
  have := szCore_eq x.term hf 1048576 fuel (by omega) (by rw [fuel_eq]; omega)
  rw [show ((1048576 : Nat) : Int) = 1048576 from rfl] at this
  rw [this, bind_some', szr_neg]
  by_cases h : 1048576 < x.term.sz
  · rw [if_pos (by simpa using h), szr_gt (by omega)]
  · rw [if_neg (by simpa using h), szr_le (by omega), szStringS_eq _ _ (by omega) hl hs, bind_some', szr_neg]
    by_cases h2 : 1048576 - x.term.sz < x.labels.length + strSz x.labels
    · rw [if_pos (by simpa using h2), szr_gt (by omega)]
    · rw [if_neg (by simpa using h2), szr_le (by omega), szr_le (by omega)]; congr 2; omega
theorem ValidLabelled_law (x : Labelled) (hf : x.term.Fits) (hl : x.labels.length ≤ 9223372036854775807) (hs : ∀ s ∈ x.labels, s.size ≤ 9223372036854775807) : l_FnExactValidLabelled x = some true := by
  unfold l_FnExactValidLabelled
  rw [szLabelled_eq x hf hl hs, bind_some', szr_neg]
  by_cases h : 1048576 < x.term.sz + (x.labels.length + strSz x.labels)
  · rw [if_pos (by simpa using h)]
  rw [if_neg (by simpa using h)]
  have h1 : x.term.Small := x.term.small_of (by unfold Big; omega)
  have h2 : x.term.nodes ≤ Big := by have := Core.nodes_le x.term; unfold Big; omega
  have h3 : x.labels.length ≤ Big := by unfold Big; omega
  have hto : l_toLabelled x = some x := by
    unfold l_toLabelled
    rw [toCore_eq _ h1 fuel (by have := fuel_nodes h2; omega), bind_some', toStringS_eq _ h3, bind_some']
  have heq : l_eqLabelled x x = some true := by
    unfold l_eqLabelled
    rw [eqCore_eq _ h1 fuel (by have := fuel_nodes h2; omega), bind_some', if_neg (by simp), eqStringS_eq _ h3, bind_some']
    rfl
  rw [hto, bind_some', sValidLabelled_eq x h1 h2 h3, bind_some', bind_some', iValidLabelled_eq x h1 h2 h3, bind_some', if_neg (by simp), bind_some', heq, bind_some']
  rfl
end Go.Proofs.Ytfbnlkaggggmiaa.Ab
