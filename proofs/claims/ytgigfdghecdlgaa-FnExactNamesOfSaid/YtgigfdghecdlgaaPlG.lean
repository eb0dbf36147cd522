/-
  Loops of one kind, each once: sizes, copies, comparisons. No program is in sight.
-/
import Derived.Test.YtgigfdghecdlgaaPlH
namespace Go.Proofs.Ytgigfdghecdlgaa.Ab
set_option linter.unusedVariables false
set_option linter.unusedSimpArgs false
open Go.RowKit
def szl {α:Type} (s:α→Nat):List α→Nat
 | [] =>0
 |x::l=>1+s x+szl s l
def P9 (o:Option Bool) (p:Prop):Prop:=∃b,o=some b∧(b=true↔p)
theorem P9.mk {b:Bool} {p:Prop} (h:b=true↔p):P9 (some b) p:=⟨b,rfl,h⟩
theorem P9.true {o:Option Bool} {p:Prop} (h:P9 o p) (hp:p):o=some true:=by
 obtain⟨b,rfl,h1⟩:=h
 rw [h1.2 hp]
def HX:List ByteArray→Nat
 | [] =>0
 |s::l=>s.size+HX l
theorem IV (s:ByteArray):ET s s=true:=by unfold ET; simp
theorem Sy (c:Core) (h:c.sz≤Big):DE fuel c=some c:=RL c (Core.small_of c h) fuel (by have:=Core.nodes_le c; rw [B5]; unfold Big at h; omega)
theorem Sz (c:Core) (h:c.sz≤Big):DF fuel c c=some true:=RM c (Core.small_of c h) fuel (by have:=Core.nodes_le c; rw [B5]; unfold Big at h; omega)
end Go.Proofs.Ytgigfdghecdlgaa.Ab
