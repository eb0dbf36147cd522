/-
  Slices of bytes: compared, marked, found again. No program is in sight.
-/
import Derived.Test.YtocpkbclcnjejaaPlG
import Derived.Test.YtocpkbclcnjejaaPlM
import Derived.Test.YtocpkbclcnjejaaModC
namespace Go.Proofs.Ytocpkbclcnjejaa.Ab
set_option linter.unusedVariables false
set_option linter.unusedSimpArgs false
open Go.RowKit

def mkBy : Nat → Int → Int := fun k _ => IntKind.u8.wrap (k : Int)
theorem eqByteS_tells (l m : List Int) (hl : l.length ≤ Big) : Tells (l_eqByteS l m) (l = m) := by
  unfold l_eqByteS
  exact gEqS (fun n i => l_eqByteS_l1 n l m i) (fun x y => some (decide (x = y))) l m (fun n i => by rw [l_eqByteS_l1]; rfl) hl fun x _ y _ => .mk dec_iff
theorem markByteS_eq (l : List Int) (k : Nat) (h : l.length ≤ Big) (hk : k + cnts one l ≤ KB) : l_markByteS l (k : Int) = some (((k + cnts one l : Nat) : Int), mks mkBy one k l) := by
  unfold l_markByteS
  refine gMark (fun n l k i => l_markByteS_l1 n l k i) mkBy one (fun _ => True) ?_ ?_ l k (fun _ _ => trivial) h hk
  · intro n pre post x k hx hk hp
    have e : k + one x = k + 1 := by rfl
    rw [e] at hk ⊢
    rw [l_markByteS_l1, if_pos lt_mid]
    simp (disch := omega) only [at_mid, set_mid, bind_some', wk, wrap_len]
    rfl
  · intro n l k; rw [l_markByteS_l1, if_neg (by rw [ge_len]; decide)]
theorem heldByteS_eq (l : List Int) (k : Nat) (h : l.length ≤ Big) (hk : k + cnts one l ≤ KB) : l_heldByteS (mks mkBy one k l) (k : Int) = some ((k + cnts one l : Nat) : Int) := by
  unfold l_heldByteS
  refine gHeld (fun n l k i => l_heldByteS_l1 n l k i) mkBy one (fun _ => True) ?_ ?_ l k (fun _ _ => trivial) h hk
  · intro n pre post x k hx hk hp
    have e : k + one x = k + 1 := by rfl
    rw [e] at hk ⊢
    rw [l_heldByteS_l1, if_pos lt_mid]
    simp (disch := omega) only [mkBy, at_mid, bind_some', wk, wrap_len, eq_self, decide_true, Bool.not_true, Bool.false_eq_true, reduceIte]
  · intro n l k; rw [l_heldByteS_l1, if_neg (by rw [ge_len]; decide)]
end Go.Proofs.Ytocpkbclcnjejaa.Ab
