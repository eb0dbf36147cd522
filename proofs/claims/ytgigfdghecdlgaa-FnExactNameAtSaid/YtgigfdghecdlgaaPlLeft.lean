/-
  Sizes of terms, counted down. No program is in sight.
-/
import Derived.Test.YtgigfdghecdlgaaPlC
import Derived.Test.YtgigfdghecdlgaaMod
namespace Go.Proofs.Ytgigfdghecdlgaa.Ab
set_option linter.unusedVariables false
set_option linter.unusedSimpArgs false
open Go.RowKit

theorem l08Left_eq : ∀ (c : Core), c.Small → ∀ (left n : Nat), left ≤ Big → 16 * c.nodes ≤ n → s_l08Left n c left = some (szr c.nodes left) := by
  refine Core.ind fun c ih hs left n hB hn => ?_
  obtain ⟨_, hdl, hk, hf⟩ := hs
  rw [Core.nodes_eq] at hn ⊢
  obtain ⟨n, rfl⟩ : ∃ m, n = m + 1 := ⟨n - 1, by omega⟩
  obtain ⟨n, rfl⟩ : ∃ m, n = m + 1 := ⟨n - 1, by omega⟩
  rw [s_l08Left, w64 (by omega) (by unfold Big at hB; omega)]
  -- a round that meets a negative number ends
  have stop : ∀ (n : Nat) (pre : List Core), 2 ≤ n → s_l08Left_l3 n c (-1) ((List.length pre : Nat) : Int) = some (-1) := by
    intro n pre hn
    obtain ⟨n, rfl⟩ : ∃ m, n = m + 1 := ⟨n - 1, by omega⟩
    obtain ⟨n, rfl⟩ : ∃ m, n = m + 1 := ⟨n - 1, by omega⟩
    rw [s_l08Left_l3]
    have e : decide ((0 : Int) ≤ -1) = false := by decide
    rw [e]
    split <;> (rw [s_l08Left_j4]; rfl)
  have loop : ∀ (post pre : List Core) (n l3 : Nat), c.kids = pre ++ post → 16 * Core.nodess post + 2 ≤ n → l3 ≤ Big → s_l08Left_l3 n c l3 ((List.length pre : Nat) : Int) = some (szr (Core.nodess post) l3) := by
    intro post
    induction post with
    | nil =>
      intro pre n l3 h hn _
      obtain ⟨n, rfl⟩ : ∃ m, n = m + 1 := ⟨n - 1, by omega⟩
      obtain ⟨n, rfl⟩ : ∃ m, n = m + 1 := ⟨n - 1, by omega⟩
      rw [s_l08Left_l3, ge_app h, if_neg (by simp), s_l08Left_j4]
      simp [Core.nodess, szr]
    | cons x post ihp =>
      intro pre n l3 h hn h3
      rw [Core.nodess] at hn ⊢
      have hp := x.nodes_pos
      obtain ⟨n, rfl⟩ : ∃ m, n = m + 1 := ⟨n - 1, by omega⟩
      obtain ⟨n, rfl⟩ : ∃ m, n = m + 1 := ⟨n - 1, by omega⟩
      have hx : x ∈ c.kids := by rw [h]; simp
      rw [s_l08Left_l3, if_pos (lt_app h), s_l08Left_j4, if_pos (by simp), at_app h, bind_some', ih x hx (hf x hx) l3 n h3 (by omega), bind_some', wrap_app h hk]
      by_cases h5 : x.nodes ≤ l3
      · rw [szr_le h5, ihp (pre ++ [x]) n (l3 - x.nodes) (next_app h) (by omega) (by omega)]
        congr 1
        unfold szr
        by_cases h6 : Core.nodess post ≤ l3 - x.nodes
        · rw [if_pos h6, if_pos (by omega)]; congr 1; omega
        · rw [if_neg h6, if_neg (by omega)]
      · rw [szr_gt (by omega), stop _ _ (by omega), szr_gt (by omega)]
  by_cases h0 : left = 0
  · subst h0
    have := stop (n + 1) [] (by omega)
    refine this.trans ?_
    rw [szr_gt (by omega)]
  · have := loop c.kids [] (n + 1) (left - 1) (by simp) (by omega) (by omega)
    rw [show ((left : Int) - 1) = ((left - 1 : Nat) : Int) from by omega]
    refine this.trans ?_
    congr 1
    unfold szr
    by_cases h6 : Core.nodess c.kids ≤ left - 1
    · rw [if_pos h6, if_pos (by omega)]; congr 1; omega
    · rw [if_neg h6, if_neg (by omega)]
end Go.Proofs.Ytgigfdghecdlgaa.Ab
