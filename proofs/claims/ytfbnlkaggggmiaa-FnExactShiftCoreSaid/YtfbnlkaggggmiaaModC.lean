/-
  Models of the functions. Printed by wip/ab/gen.py.
-/
import Derived.Test.YtfbnlkaggggmiaaMTyC
import Derived.Test.YtfbnlkaggggmiaaMod
namespace Go.Proofs.Ytfbnlkaggggmiaa.Ab
set_option linter.unusedVariables false
set_option linter.unusedSimpArgs false
set_option maxRecDepth 20000
set_option maxHeartbeats 4000000
open Go.RowKit

def l_markInt64S_l1 : Nat → (List Int) → Int → Int → Option (Int × (List Int))
  | 0, _, _, _ => none
  | n + 1, p0_0, p0_1, p0_2 => (if (decide (p0_2 < ((List.length p0_0 : Nat) : Int))) = true then (Option.bind (at? p0_0 p0_2) fun v5003 => (Option.bind (set1? p0_0 p0_2 p0_1) fun v5004_8 => (l_markInt64S_l1 n v5004_8 (IntKind.i64.wrap (p0_1 + 1)) (IntKind.i64.wrap (p0_2 + 1))))) else (some (p0_1, p0_0)))
def l_markInt64S (a0 : List Int) (a1 : Int) : Option (Int × (List Int)) :=
  (l_markInt64S_l1 fuel a0 a1 0)
mutual
def l_markCoreS : Nat → (List Core) → Int → Option (Int × (List Core))
  | 0, _, _ => none
  | n + 1, a0, a1 => (l_markCoreS_l1 n a0 a1 0)
def l_markCoreS_l1 : Nat → (List Core) → Int → Int → Option (Int × (List Core))
  | 0, _, _, _ => none
  | n + 1, p0_0, p0_1, p0_2 => (if (decide (p0_2 < ((List.length p0_0 : Nat) : Int))) = true then (Option.bind (at? p0_0 p0_2) fun v5003 => (Option.bind (set1? p0_0 p0_2 (⟨p0_1, v5003.value, v5003.data, v5003.kids⟩ : Core)) fun v5005_29 => (Option.bind (at? v5005_29 p0_2) fun v7003 => (Option.bind (set1? v5005_29 p0_2 (⟨v7003.kind, (IntKind.i64.wrap (p0_1 + 1)), v7003.data, v7003.kids⟩ : Core)) fun v7005_30 => (Option.bind (at? v7005_30 p0_2) fun v9002 => (Option.bind (l_markInt64S v9002.data (IntKind.i64.wrap ((IntKind.i64.wrap (p0_1 + 1)) + 1))) fun v9006 => (Option.bind (set1? v7005_30 p0_2 (⟨v9002.kind, v9002.value, v9006.2, v9002.kids⟩ : Core)) fun v9006_31 => (Option.bind (at? v9006_31 p0_2) fun v10002 => (Option.bind (l_markCoreS n v10002.kids v9006.1) fun v10006 => (Option.bind (set1? v9006_31 p0_2 (⟨v10002.kind, v10002.value, v10002.data, v10006.2⟩ : Core)) fun v10006_32 => (l_markCoreS_l1 n v10006_32 v10006.1 (IntKind.i64.wrap (p0_2 + 1))))))))))))) else (some (p0_1, p0_0)))
end
def l_markCore (a0 : Core) (a1 : Int) : Option (Int × (List Int) × (List Core)) :=
  (Option.bind (l_markInt64S a0.data a1) fun v2003 => (Option.bind (l_markCoreS fuel a0.kids v2003.1) fun v3003 => (some (v3003.1, v2003.2, v3003.2))))
def l_heldInt64S_l1 : Nat → (List Int) → Int → Int → Option (Int)
  | 0, _, _, _ => none
  | n + 1, a0, p0_0, p0_1 => (if (decide (p0_1 < ((List.length a0 : Nat) : Int))) = true then (Option.bind (at? a0 p0_1) fun v5002 => (if (!decide (v5002 = p0_0)) = true then (some (-1)) else (l_heldInt64S_l1 n a0 (IntKind.i64.wrap (p0_0 + 1)) (IntKind.i64.wrap (p0_1 + 1))))) else (some p0_0))
def l_heldInt64S (a0 : List Int) (a1 : Int) : Option (Int) :=
  (l_heldInt64S_l1 fuel a0 a1 0)
mutual
def l_heldCoreS : Nat → (List Core) → Int → Option (Int)
  | 0, _, _ => none
  | n + 1, a0, a1 => (l_heldCoreS_l1 n a0 a1 0)
def l_heldCoreS_l1 : Nat → (List Core) → Int → Int → Option (Int)
  | 0, _, _, _ => none
  | n + 1, a0, p0_0, p0_1 => (if (decide (p0_1 < ((List.length a0 : Nat) : Int))) = true then (Option.bind (at? a0 p0_1) fun v5002 => (if (!decide (v5002.kind = p0_0)) = true then (some (-1)) else (Option.bind (at? a0 p0_1) fun v8002 => (if (!decide (v8002.value = (IntKind.i64.wrap (p0_0 + 1)))) = true then (some (-1)) else (Option.bind (at? a0 p0_1) fun v11002 => (Option.bind (l_heldInt64S v11002.data (IntKind.i64.wrap ((IntKind.i64.wrap (p0_0 + 1)) + 1))) fun v11006 => (if (decide (v11006 < 0)) = true then (some (-1)) else (Option.bind (at? a0 p0_1) fun v14002 => (Option.bind (l_heldCoreS n v14002.kids v11006) fun v14006 => (if (decide (v14006 < 0)) = true then (some (-1)) else (l_heldCoreS_l1 n a0 v14006 (IntKind.i64.wrap (p0_1 + 1))))))))))))) else (some p0_0))
end
def l_heldCore (a0 : Core) (a1 : Int) : Option (Int) :=
  (Option.bind (l_heldInt64S a0.data a1) fun v2003 => (if (decide (v2003 < 0)) = true then (some (-1)) else (Option.bind (l_heldCoreS fuel a0.kids v2003) fun v5003 => (if (decide (v5003 < 0)) = true then (some (-1)) else (some v5003)))))
end Go.Proofs.Ytfbnlkaggggmiaa.Ab
