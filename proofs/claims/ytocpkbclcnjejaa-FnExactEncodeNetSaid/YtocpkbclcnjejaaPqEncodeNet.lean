/-
  The law on EncodeNet, from what both sides give. Printed by wip/ab/genplain.py. No program is in sight.
-/
import Derived.Test.YtocpkbclcnjejaaPlG
import Derived.Test.YtocpkbclcnjejaaAbZ
import Derived.Test.YtocpkbclcnjejaaModB
import Derived.Test.YtocpkbclcnjejaaPlM
import Derived.Test.YtocpkbclcnjejaaPlTU
import Derived.Test.YtocpkbclcnjejaaPlMU
import Derived.Test.YtocpkbclcnjejaaPlByte
import Derived.Test.YtocpkbclcnjejaaPlEncNet
namespace Go.Proofs.Ytocpkbclcnjejaa.Ab
set_option linter.unusedVariables false
set_option linter.unusedSimpArgs false
open Go.RowKit

theorem EncodeNet_plain (a0 : Net) (h0 : oksC (Net.ds a0)) : l_FnExactEncodeNet a0 = some true := by
  unfold l_FnExactEncodeNet
  refine law_sz (szNet_eq a0 (Net.ok_of a0 h0) (1048576) (by omega)) fun z0 => ?_
  have b0 : a0.sz ≤ Big := by unfold Big; omega
  obtain ⟨r, hs, hi, hr⟩ := EncodeNet_same a0 (by omega)
  have ft0 : l_toNet a0 = some a0 := toNet_eq a0 b0
  have fe0 : l_eqNet a0 a0 = some true := (eqNet_tells a0 a0 b0).true rfl
  have br0 := hr
  have ge0 : l_eqByteS r.1 r.1 = some true := (eqByteS_tells r.1 r.1 br0).true rfl
  have fm0 : l_markNet a0 1 = some (((1 + a0.cntV : Nat) : Int), (Net.mkV (1) a0).agents) := markNet_eq a0 (1) b0 (by have := Net.cntV_le a0; have := b0; unfold Big KB at *; omega)
  have gm0 : l_markByteS r.1 1 = some (((1 + cnts one r.1 : Nat) : Int), mks mkBy one (1) r.1) := markByteS_eq r.1 (1) br0 (by have := cnts_flat (c := one) (b := 1) (l := r.1) (fun x => one_le); have := br0; unfold Big KB at *; omega)
  have gh0 : l_heldByteS (mks mkBy one (1) r.1) 1 = some (((1 + cnts one r.1 : Nat) : Int)) := heldByteS_eq r.1 (1) br0 (by have := cnts_flat (c := one) (b := 1) (l := r.1) (fun x => one_le); have := br0; unfold Big KB at *; omega)
  simp only [bind_some', hs, hi, ft0, fe0, ge0, fm0, gm0, gh0, l_FnExactEncodeNet_j3, l_FnExactEncodeNet_j2, l_FnExactEncodeNet_j1, sameStr_self, beq_self_eq_true, nneg, eq_self, decide_true, decide_false, Bool.not_true, Bool.not_false, Bool.false_eq_true, reduceIte]
end Go.Proofs.Ytocpkbclcnjejaa.Ab
