/-
  The functions do what their models say. Printed by wip/ab/gen.py.
-/
import Derived.Test.YtffokcfdkkikmaaModM
import Derived.Test.YtffokcfdkkikmaaTi2
import Derived.Test.YtffokcfdkkikmaaWlk
namespace Go.Proofs.Ytffokcfdkkikmaa.Ab
set_option linter.unusedVariables false
set_option linter.unusedSimpArgs false
set_option maxRecDepth 20000
set_option maxHeartbeats 4000000
open Go.RowKit

theorem l_markBook_ok (a0 : Book) (a1 : Int) (z1 : Option Nat) (r : Int × (List Core)) (h : l_markBook a0 a1 = some r) : AG Try.prog 29 [.agg [.own 1], .int .i64 a1] [(1, ⟨List.map Core.ds a0.defs, z1, 0⟩)] [] (.int .i64 r.1) [(1, ⟨List.map Core.ds r.2, z1, 0⟩)] [] := by
  unfold l_markBook at h
  refine ag_fn mixed Try.func29 rfl rfl rfl (by kernel_rfl) (by kernel_rfl) ?_
  try simp only [go_sem]
  replace h := bindE h
  obtain ⟨v2003, hv2003, h⟩ := h
  refine call_g ⟨[], [(1, 1)], [], [], [], true⟩ (by kernel_rfl) (l_markCoreS_ok fuel _ _ z1 _ hv2003) (by kernel_rfl) ?_
  try simp only [go_sem]
  replace h := Option.some.inj h
  obtain rfl := h
  refine ret_i (.done _) [(1, 1)] [] ?_
  simp only [go_sem]
theorem l_heldBook_ok (a0 : Book) (a1 : Int) (r : Int) (h : l_heldBook a0 a1 = some r) : AC Try.prog 30 [.agg (Book.avs a0), .int .i64 a1] (.int .i64 r) := by
  unfold l_heldBook at h
  refine ac_fn mixed Try.func30 rfl rfl rfl (by kernel_rfl) (by kernel_rfl) ?_
  try simp only [go_sem]
  replace h := bindE h
  obtain ⟨v2003, hv2003, h⟩ := h
  refine call_i (l_heldCoreS_ok fuel _ _ _ hv2003) ?_
  try simp only [go_sem]
  refine cond_i (fun hb1 => ?_) (fun hb1 => ?_)
  · replace h := ifT (c := (decide (v2003 < 0))) hb1 h
    try simp only [go_sem]
    replace h := Option.some.inj h
    obtain rfl := h
    simp only [go_sem]
  · replace h := ifF (c := (decide (v2003 < 0))) hb1 h
    try simp only [go_sem]
    refine seq_go ?_
    try simp only [go_sem]
    replace h := Option.some.inj h
    obtain rfl := h
    simp only [go_sem]
end Go.Proofs.Ytffokcfdkkikmaa.Ab
