/-
  The law on NewDesk: a new desk holds no program and no schedule. No program is in sight.
-/
import Derived.Test.YtfbnlkaggggmiaaPlNil
import Derived.Test.YtfbnlkaggggmiaaModK
namespace Go.Proofs.Ytfbnlkaggggmiaa.Ab
set_option linter.unusedVariables false
set_option linter.unusedSimpArgs false
open Go.RowKit
theorem eqDataS_nil : l_eqDataS [] [] = some true := by unfold l_eqDataS; rw [fuel_s, l_eqDataS_l1]; simp
theorem eqDefS_nil : l_eqDefS [] [] = some true := by unfold l_eqDefS; rw [fuel_s, l_eqDefS_l1]; simp
theorem markDataS_nil (k : Int) : l_markDataS [] k = some (k, []) := by unfold l_markDataS; rw [fuel_s, l_markDataS_l1]; simp
theorem markDefS_nil (k : Int) : l_markDefS [] k = some (k, []) := by unfold l_markDefS; rw [fuel_s, l_markDefS_l1]; simp
theorem markInt64S_nil (k : Int) : l_markInt64S [] k = some (k, []) := by unfold l_markInt64S; rw [fuel_s, l_markInt64S_l1]; simp
theorem heldDataS_nil (k : Int) : l_heldDataS [] k = some k := by unfold l_heldDataS; rw [fuel_s, l_heldDataS_l1]; simp
theorem heldDefS_nil (k : Int) : l_heldDefS [] k = some k := by unfold l_heldDefS; rw [fuel_s, l_heldDefS_l1]; simp
theorem heldInt64S_nil (k : Int) : l_heldInt64S [] k = some k := by unfold l_heldInt64S; rw [fuel_s, l_heldInt64S_l1]; simp
theorem NewDesk_plain : l_FnExactNewDesk = some true := by
  have heq : l_eqDesk ⟨false, ⟨[], []⟩, [], 2⟩ ⟨false, ⟨[], []⟩, [], 2⟩ = some true := by unfold l_eqDesk l_eqProgram; simp [eqDataS_nil, eqDefS_nil, eqInt64S_nil]
  have hm : l_markDesk ⟨false, ⟨[], []⟩, [], 2⟩ 1 = some (1, [], [], []) := by unfold l_markDesk l_markProgram; simp [markDataS_nil, markDefS_nil, markInt64S_nil]
  have hh : l_heldDesk ⟨false, ⟨[], []⟩, [], 2⟩ 1 = some 1 := by unfold l_heldDesk l_heldProgram; simp [heldDataS_nil, heldDefS_nil, heldInt64S_nil]
  unfold l_FnExactNewDesk s_NewDesk i_NewDesk
  simp [heq, hm, hh]
end Go.Proofs.Ytfbnlkaggggmiaa.Ab
