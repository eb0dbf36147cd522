/-
  The laws' helpers for the types of this group: sizes, copies, comparisons. Printed by wip/ab/genhelp.py. No program is in sight.
-/
import Derived.Test.YtlmanchbpommaaaDoorModW
import Derived.Test.YtlmanchbpommaaaDoorPlG
import Derived.Test.YtlmanchbpommaaaDoorAbZ
import Derived.Test.YtlmanchbpommaaaDoorPlG
namespace Go.Proofs.YtlmanchbpommaaaDoor.Ab
set_option linter.unusedVariables false
set_option linter.unusedSimpArgs false
open Go.RowKit

structure Row.Ok (x : Row) : Prop where
  name : x.name.size ≤ 9223372036854775807
  typ : x.typ.size ≤ 9223372036854775807
  size : (Lit.int IntKind.i64 x.size).wf = true
  agents : (Lit.int IntKind.i64 x.agents).wf = true
  uses : (x.uses.length ≤ 9223372036854775807 ∧ ∀ e ∈ x.uses, (Lit.int IntKind.i64 e).wf = true)
theorem Row.ok_of (x : Row) (h : oksC (Row.ds x)) : x.Ok := by
  rw [Row.ds_eq] at h
  simp only [oksC, D.ok, List.length_map] at h
  obtain ⟨h1, h2, h3, h4, h5, -⟩ := h
  exact ⟨h1, h2, h3, h4, ⟨h5.1, fun e he => by have := (oksR_mem h5.2 he); simpa only [i64D, oksC, D.ok, and_true] using this⟩⟩
theorem Row.eq_iff (x y : Row) : x = y ↔ x.name = y.name ∧ x.typ = y.typ ∧ x.size = y.size ∧ x.agents = y.agents ∧ x.uses = y.uses := by
  cases x; cases y; simp only [Row.mk.injEq]
def Row.sz (x : Row) : Nat := x.name.size + (x.typ.size + (x.uses.length + 0))
theorem szRow_eq (x : Row) (h : x.Ok) (left : Nat) (h1 : left ≤ 1048576) : l_szRow x left = some (szr x.sz left) := by
  unfold l_szRow Row.sz
  exact sz_here2 (by omega) h.name fun _ ew => (by rw [ew]; exact sz_here2 (by omega) h.typ fun _ ew => (by rw [ew]; exact sz_step (szInt64S_eq _ _ (by omega) h.uses.1) fun _ => sz_end))
theorem toRow_eq (x : Row) (h : x.sz ≤ Big) : l_toRow x = some x := by
  unfold l_toRow
  rw [toInt64S_eq _ (by have := h; simp only [Row.sz] at this; omega), bind_some']
  first | done | rfl
theorem eqRow_tells (x y : Row) (h : x.sz ≤ Big) : Tells (l_eqRow x y) (x = y) := by
  unfold l_eqRow
  exact Tells.iff (tells_ifn sameStr_iff fun _ => tells_ifn sameStr_iff fun _ => tells_ifn dec_iff fun _ => tells_ifn dec_iff fun _ => tells_bind_ifn (eqInt64S_tells _ _ (by have := h; simp only [Row.sz] at this; omega)) fun _ => tells_true) (by rw [Row.eq_iff]; simp only [and_true])
end Go.Proofs.YtlmanchbpommaaaDoor.Ab
