/- What the walks take as given of the tables that start-up code lays. -/
import Derived.WalkKit
import Derived.Lib.LaidTab
import Derived.Lib.ItoaNum
namespace Go.Proofs.YtjnifengdhcojaaGreatDoor.Ab
set_option linter.unusedVariables false
open Go.RowKit
def Amb (P:Program) (w:World):Prop:=P.globals.size<P.low∧Lib.TabIs P w "internal/strconv.uint64pow10" .u64 Lib.pow10Tab
theorem gq {P:Program} {w w':World} (h:Amb P w) (hb:∀k,k<P.low→w'.heap[k]? =w.heap[k]?):Amb P w':=by
 obtain⟨h1,h2⟩:=h
 refine⟨h1,?_⟩
 unfold Lib.TabIs World.var? at h2 ⊢
 cases hg:P.globalNamed "internal/strconv.uint64pow10" with
 |none=>rw [hg] at h2; simp at h2
 | some g=>
  have hlt:g<P.globals.size:=by
   unfold Program.globalNamed at hg
   split at hg
   ·rename_i g' he
    cases hg
    have:g ∈ (List.range P.globals.size).filter fun g=>(P.globals[g]?).any (·.name == "internal/strconv.uint64pow10"):=by rw [he]; simp
    exact List.mem_range.1 (List.mem_filter.1 this).1
   ·cases hg
  rw [hg] at h2
  simp only [Option.bind_some] at h2 ⊢
  rw [hb g (by omega)]
  exact h2
end Go.Proofs.YtjnifengdhcojaaGreatDoor.Ab
