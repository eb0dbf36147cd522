/-
  Small facts that the plain laws on nets and numbers use (taken out of XPlC, whose Core terms are not in every seat).
-/
import Derived.Test.YtckcfdggbbabfaaGreatPlH
import Derived.Test.YtckcfdggbbabfaaGreatModU
namespace Go.Proofs.YtckcfdggbbabfaaGreat.Ab
set_option linter.unusedVariables false
set_option linter.unusedSimpArgs false
set_option maxRecDepth 20000
set_option maxHeartbeats 4000000
open Go.RowKit
theorem indexFunc_go {α : Type} (L : Nat → List α → Int → (α → Option Bool) → Option Int) (hL : ∀ n l i f, L (n + 1) l i f = (if (decide (i < ((List.length l : Nat) : Int))) = true then (Option.bind (at? l i) fun x => (Option.bind (f x) fun b => (if b = true then (some i) else (L n l (IntKind.i64.wrap (i + 1)) f)))) else (some (-1))))
  (l : List α) (f : α → Option Bool) (p : α → Bool) (hl : l.length ≤ Big) (hf : ∀ x ∈ l, f x = some (p x)) : ∃ i : Int, L fuel l 0 f = some i ∧ (0 ≤ i ↔ l.any p = true) ∧ (l.any p = false → i = -1) := by
 have loop : ∀ (post pre : List α) (n : Nat), l = pre ++ post → post.length < n → ∃ i : Int, L n l ((List.length pre : Nat) : Int) f = some i ∧ (0 ≤ i ↔ post.any p = true) ∧ (post.any p = false → i = -1) := by
  intro post
  induction post with
  | nil =>
   intro pre n h hn
   obtain ⟨n, rfl⟩ : ∃ m, n = m + 1 := ⟨n - 1, by omega⟩
   rw [hL, ge_app h]
   exact ⟨-1, rfl, by simp, fun _ => rfl⟩
  | cons x post ih =>
   intro pre n h hn
   obtain ⟨n, rfl⟩ : ∃ m, n = m + 1 := ⟨n - 1, by omega⟩
   rw [hL, if_pos (lt_app h), at_app h, bind_some', hf x (by rw [h]; simp), bind_some']
   by_cases hp : p x = true
   ·rw [if_pos hp]
    exact ⟨_, rfl, by simp [hp], by simp [hp]⟩
   ·rw [if_neg hp, wrap_app h hl]
    obtain ⟨i, h1, h2, h3⟩ := ih (pre ++ [x]) n (next_app h) (by simp at hn; omega)
    have hp' : p x = false := by simpa using hp
    exact ⟨i, h1, by simpa [hp'] using h2, by simpa [hp'] using h3⟩
 exact loop l [] fuel (by simp) (by rw [fuel_eq]; unfold Big at hl; omega)
theorem containsInt (l : List Int) (f : Int → Option Bool) (p : Int → Bool) (hl : l.length ≤ Big) (hf : ∀ x ∈ l, f x = some (p x)) : g_ContainsFunc_sint64 l f = some (l.any p) := by
 obtain ⟨i, h1, h2, -⟩ := indexFunc_go g_IndexFunc_sint64_l1 (fun n l i f => by rw [g_IndexFunc_sint64_l1]) l f p hl hf
 unfold g_ContainsFunc_sint64 g_IndexFunc_sint64
 rw [h1, bind_some']
 congr 1
 rw [Bool.eq_iff_iff, decide_eq_true_eq]; exact h2
def inBook (n : Int) : Bool := decide (0 ≤ n ∧ n ≤ 23)
theorem l00In_eq (n a b : Int) : s_l00In n a b = some (decide (a ≤ n ∧ n ≤ b)) := by
 unfold s_l00In
 by_cases h : a ≤ n <;> simp [h]
theorem isInt_eq (n : Int) : i_isInt n = some (decide (-2147483648 ≤ n ∧ n ≤ 2147483647)) := by
 unfold i_isInt
 by_cases h : -2147483648 ≤ n <;> simp [h]
theorem isOperator_eq (n : Int) : i_isOperator n = some (decide (1 ≤ n ∧ n ≤ 6)) := by
 unfold i_isOperator
 by_cases h : 1 ≤ n <;> simp [h]
theorem isDefIndex_eq (n : Int) : i_isDefIndex n = some (inBook n) := by
 unfold i_isDefIndex inBook
 by_cases h : 0 ≤ n
 ·simp [h]; omega
 ·simp [h]
theorem any_not {l : List Int} : l.any (fun k => !inBook k) = !l.all inBook := by
 induction l with
 | nil => rfl
 | cons x xs ih => simp only [List.any_cons, List.all_cons, ih, Bool.not_and]
theorem w64n1 {n : Nat} (h : n ≤ Big) : IntKind.i64.wrap ((n : Int) + 1) = ((n + 1 : Nat) : Int) := by
 rw [w64 (by omega) (by unfold Big at h; omega)]; omega
end Go.Proofs.YtckcfdggbbabfaaGreat.Ab
