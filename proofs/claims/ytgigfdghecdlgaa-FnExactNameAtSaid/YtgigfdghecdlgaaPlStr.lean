/-
  Lists of texts: sizes, copies, comparisons. No program is in sight.
-/
import Derived.Test.YtgigfdghecdlgaaPlG
import Derived.Test.YtgigfdghecdlgaaModN
namespace Go.Proofs.Ytgigfdghecdlgaa.Ab
set_option linter.unusedVariables false
set_option linter.unusedSimpArgs false
open Go.RowKit

/-! ### Lists of texts -/
theorem szStringS_eq (l : List ByteArray) (left : Nat) (h1 : left ≤ 1048576) (h2 : l.length ≤ 9223372036854775807) (h3 : ∀ s ∈ l, s.size ≤ 9223372036854775807) : l_szStringS l left = some (szr (l.length + strSz l) left) := by
  unfold l_szStringS
  rw [sub_len h1 h2]
  by_cases h : l.length ≤ left
  · rw [if_neg (by simp; omega)]
    have loop : ∀ (post pre : List ByteArray) (n l3 : Nat), l = pre ++ post → l3 ≤ left → post.length < n → l_szStringS_l1 n l l3 ((List.length pre : Nat) : Int) = some (szr (strSz post) l3) := by
      intro post
      induction post with
      | nil =>
        intro pre n l3 h _ hn
        obtain ⟨n, rfl⟩ : ∃ m, n = m + 1 := ⟨n - 1, by omega⟩
        rw [l_szStringS_l1, ge_app h]
        simp [strSz, szr]
      | cons x post ihp =>
        intro pre n l3 hh h4 hn
        obtain ⟨n, rfl⟩ : ∃ m, n = m + 1 := ⟨n - 1, by omega⟩
        have hx : x ∈ l := by rw [hh]; simp
        rw [l_szStringS_l1, if_pos (lt_app hh), at_app hh, bind_some', sub_len (by omega) (h3 x hx), strSz]
        by_cases h5 : l3 < x.size
        · rw [if_pos (by simp; omega), szr_gt (by omega)]
        · rw [if_neg (by simp; omega), wrap_app hh (by unfold Big; omega), show ((l3 : Int) - (x.size : Int)) = ((l3 - x.size : Nat) : Int) from by omega, ihp (pre ++ [x]) n (l3 - x.size) (next_app hh) (by omega) (by simp at hn; omega)]
          congr 1
          unfold szr
          by_cases h6 : strSz post ≤ l3 - x.size
          · rw [if_pos h6, if_pos (by omega)]; congr 1; omega
          · rw [if_neg h6, if_neg (by omega)]
    have := loop l [] fuel (left - l.length) (by simp) (by omega) (by rw [fuel_eq]; omega)
    rw [show ((left : Int) - (l.length : Int)) = ((left - l.length : Nat) : Int) from by omega]
    rw [show (0 : Int) = ((List.length ([] : List ByteArray) : Nat) : Int) from rfl, this]
    congr 1
    unfold szr
    by_cases h6 : strSz l ≤ left - l.length
    · rw [if_pos h6, if_pos (by omega)]; congr 1; omega
    · rw [if_neg h6, if_neg (by omega)]
  · rw [if_pos (by simp; omega), szr_gt (by omega)]
theorem toStringS_eq (l : List ByteArray) (hl : l.length ≤ Big) : l_toStringS l = some l := by
  have loop : ∀ (post pre : List ByteArray) (n : Nat), l = pre ++ post → post.length < n → l_toStringS_l2 n l (pre ++ List.replicate post.length ByteArray.empty) ((List.length pre : Nat) : Int) = some l := by
    intro post
    induction post with
    | nil =>
      intro pre n h hn
      obtain ⟨n, rfl⟩ : ∃ m, n = m + 1 := ⟨n - 1, by omega⟩
      rw [l_toStringS_l2, ge_app h]; simp [h]
    | cons x post ih =>
      intro pre n h hn
      obtain ⟨n, rfl⟩ : ∃ m, n = m + 1 := ⟨n - 1, by omega⟩
      rw [l_toStringS_l2, if_pos (lt_app h), at_app h, bind_some', List.length_cons, at_rep, bind_some', set1_app, bind_some', wrap_app h hl]
      exact ih (pre ++ [x]) n (next_app h) (by simp at hn; omega)
  unfold l_toStringS
  rw [rep_ok hl, bind_some']
  exact loop l [] fuel (by simp) (by rw [fuel_eq]; unfold Big at hl; omega)
theorem eqStringS_eq (l : List ByteArray) (hl : l.length ≤ Big) : l_eqStringS l l = some true := by
  unfold l_eqStringS
  rw [if_neg (by simp)]
  have loop : ∀ (post pre : List ByteArray) (n : Nat), l = pre ++ post → post.length < n → l_eqStringS_l1 n l l ((List.length pre : Nat) : Int) = some true := by
    intro post
    induction post with
    | nil =>
      intro pre n h hn
      obtain ⟨n, rfl⟩ : ∃ m, n = m + 1 := ⟨n - 1, by omega⟩
      rw [l_eqStringS_l1, ge_app h]; rfl
    | cons x post ih =>
      intro pre n h hn
      obtain ⟨n, rfl⟩ : ∃ m, n = m + 1 := ⟨n - 1, by omega⟩
      rw [l_eqStringS_l1, if_pos (lt_app h), at_app h, bind_some', bind_some', if_neg (by rw [sameStr_self]; simp), wrap_app h hl]
      exact ih (pre ++ [x]) n (next_app h) (by simp at hn; omega)
  exact loop l [] fuel (by simp) (by rw [fuel_eq]; unfold Big at hl; omega)
theorem eqStringS_tells (l m : List ByteArray) (hl : l.length ≤ Big) : Tells (l_eqStringS l m) (l = m) := by
  unfold l_eqStringS
  exact gEqS (fun n i => l_eqStringS_l1 n l m i) (fun x y => some (sameStr x y)) l m (fun n i => by rw [l_eqStringS_l1]; rfl) hl fun x _ y _ => .mk sameStr_iff
end Go.Proofs.Ytgigfdghecdlgaa.Ab
