/-
  Slices of slices of numbers: compared, marked, found again. No program is in sight.
-/
import Derived.Test.YtffokcfdkkikmaaPlG
import Derived.Test.YtffokcfdkkikmaaPlM
import Derived.Test.YtffokcfdkkikmaaPlMC
import Derived.Test.YtffokcfdkkikmaaModW
namespace Go.Proofs.Ytffokcfdkkikmaa.Ab
set_option linter.unusedVariables false
set_option linter.unusedSimpArgs false
open Go.RowKit

theorem ss_mem {l : List (List Int)} (h : szl List.length l ≤ Big) {x : List Int} (hx : x ∈ l) : x.length ≤ Big := by have := szl_mem (s := List.length) hx; omega
theorem eqInt64SS_tells (l m : List (List Int)) (h : szl List.length l ≤ Big) : Tells (l_eqInt64SS l m) (l = m) := by
  unfold l_eqInt64SS
  exact gEqS (fun n i => l_eqInt64SS_l1 n l m i) (fun x y => l_eqInt64S x y) l m (fun n i => by rw [l_eqInt64SS_l1]) (Nat.le_trans (szl_len _ l) h) fun x hx y _ => eqInt64S_tells x y (ss_mem h hx)
theorem markInt64SS_eq (l : List (List Int)) (k : Nat) (h : szl List.length l ≤ Big) (hk : k + cnts (cnts one) l ≤ KB) : l_markInt64SS l (k : Int) = some (((k + cnts (cnts one) l : Nat) : Int), mks (mks mkI one) (cnts one) k l) := by
  unfold l_markInt64SS
  refine gMark (fun n l k i => l_markInt64SS_l1 n l k i) (mks mkI one) (cnts one) (fun x => x.length ≤ Big) ?_ ?_ l k (fun x hx => ss_mem h hx) (Nat.le_trans (szl_len _ l) h) hk
  · intro n pre post x k hx hk hp
    rw [l_markInt64SS_l1, if_pos lt_mid]
    simp (disch := omega) only [at_mid, set_mid, bind_some', wrap_len, markInt64S_eq]
  · intro n l k; rw [l_markInt64SS_l1, if_neg (by rw [ge_len]; decide)]
theorem heldInt64SS_eq (l : List (List Int)) (k : Nat) (h : szl List.length l ≤ Big) (hk : k + cnts (cnts one) l ≤ KB) : l_heldInt64SS (mks (mks mkI one) (cnts one) k l) (k : Int) = some ((k + cnts (cnts one) l : Nat) : Int) := by
  unfold l_heldInt64SS
  refine gHeld (fun n l k i => l_heldInt64SS_l1 n l k i) (mks mkI one) (cnts one) (fun x => x.length ≤ Big) ?_ ?_ l k (fun x hx => ss_mem h hx) (Nat.le_trans (szl_len _ l) h) hk
  · intro n pre post x k hx hk hp
    rw [l_heldInt64SS_l1, if_pos lt_mid]
    simp (disch := omega) only [at_mid, bind_some', wrap_len, heldInt64S_eq, nneg, Bool.false_eq_true, reduceIte]
  · intro n l k; rw [l_heldInt64SS_l1, if_neg (by rw [ge_len]; decide)]
end Go.Proofs.Ytffokcfdkkikmaa.Ab
