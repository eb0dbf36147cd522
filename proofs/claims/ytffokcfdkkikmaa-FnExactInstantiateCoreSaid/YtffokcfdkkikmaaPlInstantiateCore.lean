/-
  Both sides of InstantiateCore give the same. No program is in sight.
-/
import Derived.Test.YtffokcfdkkikmaaPlSh
namespace Go.Proofs.Ytffokcfdkkikmaa.Ab
set_option linter.unusedVariables false
set_option linter.unusedSimpArgs false
open Go.RowKit

theorem InstantiateCore_same (c a : Core) (hc : c.sz ≤ 1048576) (ha : a.sz ≤ 1048576) : ∃ r, s_InstantiateCore c a = some r ∧ i_InstantiateCore c a = some r ∧ r.1.sz ≤ Big := by
  have hs := Core.small_of c (by unfold Big; omega)
  have has := Core.small_of a (by unfold Big; omega)
  have hN : c.nodes ≤ Big := by have := Core.nodes_le c; unfold Big; omega
  have haN : a.nodes ≤ Big := by have := Core.nodes_le a; unfold Big; omega
  unfold s_InstantiateCore i_InstantiateCore
  rw [l06Ok_eq c hs hN, ValidCore_eq c hs hN, bind_some', bind_some']
  cases hv : c.valid with
  | false => exact ⟨(noCore, 1), by simp [s_InstantiateCore_j1, noCore], by simp [i_InstantiateCore_j1, noCore], by rw [noCore_sz]; unfold Big; omega⟩
  | true =>
    rw [if_neg (by simp), if_neg (by simp), l06Ok_eq a has haN, ValidCore_eq a has haN, bind_some', bind_some']
    cases hva : a.valid with
    | false => exact ⟨(noCore, 1), by simp [s_InstantiateCore_j1, noCore], by simp [i_InstantiateCore_j1, noCore], by rw [noCore_sz]; unfold Big; omega⟩
    | true =>
      obtain ⟨hw, hd, hn⟩ := valid_parts hv
      obtain ⟨haw, had, han⟩ := valid_parts hva
      have hps := put_small has hs 0
      have hpn := put_nodes a haw c 0 hw
      have ho := Core.occ_le c 0
      have hmul : c.occ 0 * a.nodes ≤ 160000 := Nat.le_trans (Nat.mul_le_mul (show c.occ 0 ≤ 400 by omega) han) (by decide)
      have hpN : (c.mv (putF a) 0).nodes ≤ Big := by unfold Big; omega
      have hsz : (c.mv (putF a) 0).sz ≤ Big := by
        have h1 := put_sz a haw c 0 hw
        have h2 : c.nodes * a.sz ≤ 400 * 1048576 := Nat.mul_le_mul hn ha
        unfold Big; omega
      refine ⟨_, by unfold s_InstantiateCore_j1; rw [if_neg (by simp), l06Instance_eq c a hs has hw haw hd hn had han, bind_some'], ?_, ?_⟩
      · unfold i_InstantiateCore_j1
        rw [if_neg (by simp), i_instantiate_eq c a hs hw hN has haw haN, bind_some', coreFits_eq _ hps hpN, bind_some']
        generalize hp : c.mv (putF a) 0 = p at *
        by_cases h1 : p.depth ≤ 80 ∧ p.nodes ≤ 400
        · rw [if_neg (by simpa using h1), indicesFit_eq _ hps hpN, bind_some', if_pos h1]
          cases p.anyC great <;> simp [noCore]
        · rw [if_pos (by simp; omega), if_neg h1]; rfl
      · simp only
        split
        · split
          · show noCore.sz ≤ Big; rw [noCore_sz]; unfold Big; omega
          · exact hsz
        · show noCore.sz ≤ Big; rw [noCore_sz]; unfold Big; omega
end Go.Proofs.Ytffokcfdkkikmaa.Ab
