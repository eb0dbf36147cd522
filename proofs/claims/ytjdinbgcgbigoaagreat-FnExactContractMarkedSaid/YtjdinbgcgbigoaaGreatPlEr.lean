/-
  Erased terms: both sides. No program is in sight.
-/
import Derived.Test.YtjdinbgcgbigoaaGreatModD
import Derived.Test.YtjdinbgcgbigoaaGreatPlC
namespace Go.Proofs.YtjdinbgcgbigoaaGreat.Ab
set_option linter.unusedVariables false
set_option linter.unusedSimpArgs false
open Go.RowKit
def boxLet (c : Core) : Bool := decide (c.kind = 6) || decide (c.kind = 7)
theorem l06Erased_eq : ∀ (c : Core),c.Small → ∀ n,16 * c.nodes ≤ n → s_l06Erased n c = some (!c.anyC boxLet) := by
 refine Core.ind fun c ih hs n hn => ?_
 obtain ⟨_,hdl,hk,hf⟩ := hs
 rw [Core.nodes_eq] at hn
 rw [Core.anyC_eq]
 obtain ⟨n,rfl⟩ : ∃ m,n = m + 1 := ⟨n - 1,by omega⟩
 obtain ⟨n,rfl⟩ : ∃ m,n = m + 1 := ⟨n - 1,by omega⟩
 rw [s_l06Erased]
 have loop : ∀ (post pre : List Core) (n : Nat),c.kids = pre ++ post → 16 * Core.nodess post + 1 ≤ n → s_l06Erased_l2 n c ((List.length pre : Nat) : Int) = some (!Core.anysC boxLet post) := by
  intro post
  induction post with
  | nil =>
   intro pre n h hn
   obtain ⟨n,rfl⟩ : ∃ m,n = m + 1 := ⟨n - 1,by omega⟩
   rw [s_l06Erased_l2,ge_app h,if_neg (by simp),Core.anysC]; rfl
  | cons x post ihp =>
   intro pre n h hn
   rw [Core.nodess] at hn
   have := x.nodes_pos
   obtain ⟨n,rfl⟩ : ∃ m,n = m + 1 := ⟨n - 1,by omega⟩
   have hx : x ∈ c.kids := by rw [h]; simp
   rw [s_l06Erased_l2,if_pos (lt_app h),at_app h,bind_some',ih x hx (hf x hx) n (by omega),bind_some',Core.anysC]
   cases x.anyC boxLet with
   | true => simp
   | false =>
    rw [if_neg (by simp),wrap_app h hk,ihp (pre ++ [x]) n (next_app h) (by omega)]
    simp
 have hj : ∀ b,s_l06Erased_j1 (n + 1) c b = some (!(b || Core.anysC boxLet c.kids)) := by
  intro b
  rw [s_l06Erased_j1]
  cases b with
  | true => simp
  | false =>
   rw [if_neg (by simp)]
   exact loop c.kids [] n (by simp) (by omega)
 rw [hj,hj]
 unfold boxLet
 by_cases h1 : c.kind = 6 <;> simp [h1]
theorem IsErased_eq (c : Core) (hs : c.Small) (hN : c.nodes ≤ Big) : i_IsErased c = some (c.valid && !c.anyC boxLet) := by
 unfold i_IsErased
 rw [ValidCore_eq c hs hN,bind_some',anyCore_eq _ boxLet c hs (fun x hx => by unfold i_IsErased_1 boxLet; by_cases h : x.kind = 6 <;> simp [h]) fuel (by have := fuel_nodes hN; omega),bind_some']
 cases c.valid <;> simp
end Go.Proofs.YtjdinbgcgbigoaaGreat.Ab
