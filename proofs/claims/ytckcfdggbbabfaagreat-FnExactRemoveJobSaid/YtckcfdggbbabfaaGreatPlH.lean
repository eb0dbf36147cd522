/-
  What the laws' helpers give: sizes, copies, comparisons. No program is in sight.
-/
import Derived.Test.YtckcfdggbbabfaaGreatPl
import Derived.Test.YtckcfdggbbabfaaGreatMod
namespace Go.Proofs.YtckcfdggbbabfaaGreat.Ab
set_option linter.unusedVariables false
set_option linter.unusedSimpArgs false
open Go.RowKit
def szr (z left : Nat) : Int := if z ≤ left then ((left - z : Nat) : Int) else -1
theorem szr_neg {z left : Nat} : decide (szr z left < 0) = decide (left < z) := by
 unfold szr
 by_cases h : z ≤ left
 ·rw [if_pos h]; simp; omega
 ·rw [if_neg h]; simp; omega
theorem szr_le {z left : Nat} (h : z ≤ left) : szr z left = ((left - z : Nat) : Int) := if_pos h
theorem szr_gt {z left : Nat} (h : left < z) : szr z left = -1 := if_neg (by omega)
theorem sub_len {n left : Nat} (h1 : left ≤ 1048576) (h2 : n ≤ 9223372036854775807) : IntKind.i64.wrap ((left : Int) - (n : Int)) = (left : Int) - n := w64 (by omega) (by omega)
theorem szInt64S_eq (l : List Int) (left : Nat) (h1 : left ≤ 1048576) (h2 : l.length ≤ 9223372036854775807) : l_szInt64S l left = some (szr l.length left) := by
 unfold l_szInt64S
 rw [sub_len h1 h2]
 by_cases h : l.length ≤ left
 ·rw [if_neg (by simp; omega), szr_le h]; congr 1; omega
 ·rw [if_pos (by simp; omega), szr_gt (by omega)]
theorem toInt64S_loop (l : List Int) (hl : l.length ≤ Big) : ∀ (post pre : List Int) (n : Nat), l = pre ++ post → post.length < n → l_toInt64S_l2 n l (pre ++ List.replicate post.length 0) ((List.length pre : Nat) : Int) = some l := by
 intro post
 induction post with
 | nil =>
  intro pre n h hn
  obtain ⟨n, rfl⟩ : ∃ m, n = m + 1 := ⟨n - 1, by omega⟩
  rw [l_toInt64S_l2, ge_app h]; simp [h]
 | cons x post ih =>
  intro pre n h hn
  obtain ⟨n, rfl⟩ : ∃ m, n = m + 1 := ⟨n - 1, by omega⟩
  rw [l_toInt64S_l2, if_pos (lt_app h), at_app h, bind_some', List.length_cons, at_rep, bind_some', set1_app, bind_some', wrap_app h hl]
  exact ih (pre ++ [x]) n (next_app h) (by simp at hn; omega)
theorem toInt64S_eq (l : List Int) (hl : l.length ≤ Big) : l_toInt64S l = some l := by
 unfold l_toInt64S
 rw [rep_ok hl, bind_some']
 exact toInt64S_loop l hl l [] fuel (by simp) (by rw [fuel_eq]; unfold Big at hl; omega)
theorem eqInt64S_eq (l : List Int) (hl : l.length ≤ Big) : l_eqInt64S l l = some true := by
 unfold l_eqInt64S
 rw [if_neg (by simp)]
 have loop : ∀ (post pre : List Int) (n : Nat), l = pre ++ post → post.length < n → l_eqInt64S_l1 n l l ((List.length pre : Nat) : Int) = some true := by
  intro post
  induction post with
  | nil =>
   intro pre n h hn
   obtain ⟨n, rfl⟩ : ∃ m, n = m + 1 := ⟨n - 1, by omega⟩
   rw [l_eqInt64S_l1, ge_app h]; rfl
  | cons x post ih =>
   intro pre n h hn
   obtain ⟨n, rfl⟩ : ∃ m, n = m + 1 := ⟨n - 1, by omega⟩
   rw [l_eqInt64S_l1, if_pos (lt_app h), at_app h, bind_some', bind_some', if_neg (by simp), wrap_app h hl]
   exact ih (pre ++ [x]) n (next_app h) (by simp at hn; omega)
 exact loop l [] fuel (by simp) (by rw [fuel_eq]; unfold Big at hl; omega)
end Go.Proofs.YtckcfdggbbabfaaGreat.Ab
