/-
  The law on EncodeTemplates, from what both sides give. Printed by wip/ab/genplain.py. No program is in sight.
-/
import Derived.Test.YtocpkbclcnjejaaPlG
import Derived.Test.YtocpkbclcnjejaaAbZ
import Derived.Test.YtocpkbclcnjejaaModH
import Derived.Test.YtocpkbclcnjejaaPlM
import Derived.Test.YtocpkbclcnjejaaPlTU
import Derived.Test.YtocpkbclcnjejaaPlMU
import Derived.Test.YtocpkbclcnjejaaPlByte
import Derived.Test.YtocpkbclcnjejaaPlEncTem
namespace Go.Proofs.Ytocpkbclcnjejaa.Ab
set_option linter.unusedVariables false
set_option linter.unusedSimpArgs false
open Go.RowKit

theorem EncodeTemplates_plain (a0 : List Net) (h0 : oksC ((slD Net.ds a0))) : l_FnExactEncodeTemplates a0 = some true := by
  unfold l_FnExactEncodeTemplates
  refine law_sz (szNetS_e a0 h0 (1048576) (by omega)) fun z0 => ?_
  have b0 : szl Net.sz a0 ≤ Big := by unfold Big; omega
  obtain ⟨r, hs, hi, hr⟩ := EncodeTemplates_same a0 (by omega)
  have ft0 : l_toNetS a0 = some a0 := toNetS_eq a0 b0
  have fe0 : l_eqNetS a0 a0 = some true := (eqNetS_tells a0 a0 b0).true rfl
  have br0 := hr
  have ge0 : l_eqByteS r.1 r.1 = some true := (eqByteS_tells r.1 r.1 br0).true rfl
  have fm0 : l_markNetS a0 1 = some (((1 + cnts Net.cnt a0 : Nat) : Int), mks Net.mk1 Net.cnt (1) a0) := markNetS_eq a0 (1) b0 (by have := cnts_le (c := Net.cnt) (s := Net.sz) (l := a0) (fun x => Net.cnt_le x); have := b0; unfold Big KB at *; omega)
  have gm0 : l_markByteS r.1 1 = some (((1 + cnts one r.1 : Nat) : Int), mks mkBy one (1) r.1) := markByteS_eq r.1 (1) br0 (by have := cnts_flat (c := one) (b := 1) (l := r.1) (fun x => one_le); have := br0; unfold Big KB at *; omega)
  have gh0 : l_heldByteS (mks mkBy one (1) r.1) 1 = some (((1 + cnts one r.1 : Nat) : Int)) := heldByteS_eq r.1 (1) br0 (by have := cnts_flat (c := one) (b := 1) (l := r.1) (fun x => one_le); have := br0; unfold Big KB at *; omega)
  simp only [bind_some', hs, hi, ft0, fe0, ge0, fm0, gm0, gh0, l_FnExactEncodeTemplates_j3, l_FnExactEncodeTemplates_j2, l_FnExactEncodeTemplates_j1, sameStr_self, beq_self_eq_true, nneg, eq_self, decide_true, decide_false, Bool.not_true, Bool.not_false, Bool.false_eq_true, reduceIte]
end Go.Proofs.Ytocpkbclcnjejaa.Ab
