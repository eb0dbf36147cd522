/- impl. -/
import Derived.Test.YthenkmapmnkelaaGreatDoorManK
namespace Go.Proofs.YthenkmapmnkelaaGreatDoor.Ab
set_option linter.unusedVariables false
open Go.RowKit
def Stack.li:Stack→List Int
 |⟨p,none⟩=>[p]
 |⟨p,some r⟩=>p::r.li
def stl:Option Stack→List Int
 |none=>[]
 |some s=>s.li
theorem Stack.li_eq (s:Stack):s.li=s.port::stl s.rest:=by
 obtain⟨p,r⟩:=s
 cases r <;> rw [Stack.li] <;> rfl
def Mp (a b:Option Stack):Option Bool:=some (decide (stl a=stl b))
end Go.Proofs.YthenkmapmnkelaaGreatDoor.Ab
