/-
  Models of the functions. Printed by wip/ab/gen.py.
-/
import Derived.Test.YtocpkbclcnjejaaMTy
namespace Go.Proofs.Ytocpkbclcnjejaa.Ab
set_option linter.unusedVariables false
set_option linter.unusedSimpArgs false
set_option maxRecDepth 20000
set_option maxHeartbeats 4000000
open Go.RowKit

def l_szInt64S (a0 : List Int) (a1 : Int) : Option (Int) :=
  (if (decide ((IntKind.i64.wrap (a1 - ((List.length a0 : Nat) : Int))) < 0)) = true then (some (-1)) else (some (IntKind.i64.wrap (a1 - ((List.length a0 : Nat) : Int)))))
mutual
def l_szCoreS : Nat → (List Core) → Int → Option (Int)
  | 0, _, _ => none
  | n + 1, a0, a1 => (if (decide ((IntKind.i64.wrap (a1 - ((List.length a0 : Nat) : Int))) < 0)) = true then (some (-1)) else (l_szCoreS_l1 n a0 (IntKind.i64.wrap (a1 - ((List.length a0 : Nat) : Int))) 0))
def l_szCoreS_l1 : Nat → (List Core) → Int → Int → Option (Int)
  | 0, _, _, _ => none
  | n + 1, a0, p0_0, p0_1 => (if (decide (p0_1 < ((List.length a0 : Nat) : Int))) = true then (Option.bind (at? a0 p0_1) fun v8002 => (Option.bind (l_szCore n v8002 p0_0) fun v8005 => (if (decide (v8005 < 0)) = true then (some (-1)) else (l_szCoreS_l1 n a0 v8005 (IntKind.i64.wrap (p0_1 + 1)))))) else (some p0_0))
def l_szCore : Nat → Core → Int → Option (Int)
  | 0, _, _ => none
  | n + 1, a0, a1 => (Option.bind (l_szInt64S a0.data a1) fun v2003 => (if (decide (v2003 < 0)) = true then (some (-1)) else (Option.bind (l_szCoreS n a0.kids v2003) fun v5003 => (if (decide (v5003 < 0)) = true then (some (-1)) else (some v5003)))))
end
def l_toInt64S_l2 : Nat → (List Int) → (List Int) → Int → Option ((List Int))
  | 0, _, _, _ => none
  | n + 1, a0, p1_0, p1_1 => (if (decide (p1_1 < ((List.length a0 : Nat) : Int))) = true then (Option.bind (at? a0 p1_1) fun v6004 => (Option.bind (at? p1_0 p1_1) fun v6006 => (Option.bind (set1? p1_0 p1_1 v6004) fun v6007_12 => (l_toInt64S_l2 n a0 v6007_12 (IntKind.i64.wrap (p1_1 + 1)))))) else (some p1_0))
def l_toInt64S (a0 : List Int) : Option ((List Int)) :=
  (Option.bind (rep? ((List.length a0 : Nat) : Int) 0) fun v2002 => (l_toInt64S_l2 fuel a0 v2002 0))
mutual
def l_toCoreS : Nat → (List Core) → Option ((List Core))
  | 0, _ => none
  | n + 1, a0 => (Option.bind (rep? ((List.length a0 : Nat) : Int) (⟨0, 0, [], []⟩ : Core)) fun v2002 => (l_toCoreS_l2 n a0 v2002 0))
def l_toCoreS_l2 : Nat → (List Core) → (List Core) → Int → Option ((List Core))
  | 0, _, _, _ => none
  | n + 1, a0, p1_0, p1_1 => (if (decide (p1_1 < ((List.length a0 : Nat) : Int))) = true then (Option.bind (at? a0 p1_1) fun v6004 => (Option.bind (l_toCore n v6004) fun v6006 => (Option.bind (at? p1_0 p1_1) fun v6007 => (Option.bind (set1? p1_0 p1_1 v6006) fun v6008_12 => (l_toCoreS_l2 n a0 v6008_12 (IntKind.i64.wrap (p1_1 + 1))))))) else (some p1_0))
def l_toCore : Nat → Core → Option (Core)
  | 0, _ => none
  | n + 1, a0 => (Option.bind (l_toInt64S a0.data) fun v5002 => (Option.bind (l_toCoreS n a0.kids) fun v6002 => (some (⟨a0.kind, a0.value, v5002, v6002⟩ : Core))))
end
def l_eqInt64S_l1 : Nat → (List Int) → (List Int) → Int → Option (Bool)
  | 0, _, _, _ => none
  | n + 1, a0, a1, p0_0 => (if (decide (p0_0 < ((List.length a0 : Nat) : Int))) = true then (Option.bind (at? a0 p0_0) fun v7002 => (Option.bind (at? a1 p0_0) fun v7006 => (if (!decide (v7002 = v7006)) = true then (some false) else (l_eqInt64S_l1 n a0 a1 (IntKind.i64.wrap (p0_0 + 1)))))) else (some true))
def l_eqInt64S (a0 : List Int) (a1 : List Int) : Option (Bool) :=
  (if (!decide (((List.length a0 : Nat) : Int) = ((List.length a1 : Nat) : Int))) = true then (some false) else (l_eqInt64S_l1 fuel a0 a1 0))
mutual
def l_eqCoreS : Nat → (List Core) → (List Core) → Option (Bool)
  | 0, _, _ => none
  | n + 1, a0, a1 => (if (!decide (((List.length a0 : Nat) : Int) = ((List.length a1 : Nat) : Int))) = true then (some false) else (l_eqCoreS_l1 n a0 a1 0))
def l_eqCoreS_l1 : Nat → (List Core) → (List Core) → Int → Option (Bool)
  | 0, _, _, _ => none
  | n + 1, a0, a1, p0_0 => (if (decide (p0_0 < ((List.length a0 : Nat) : Int))) = true then (Option.bind (at? a0 p0_0) fun v7002 => (Option.bind (at? a1 p0_0) fun v7006 => (Option.bind (l_eqCore n v7002 v7006) fun v7008 => (if (!v7008) = true then (some false) else (l_eqCoreS_l1 n a0 a1 (IntKind.i64.wrap (p0_0 + 1))))))) else (some true))
def l_eqCore : Nat → Core → Core → Option (Bool)
  | 0, _, _ => none
  | n + 1, a0, a1 => (if (!decide (a0.kind = a1.kind)) = true then (some false) else (if (!decide (a0.value = a1.value)) = true then (some false) else (Option.bind (l_eqInt64S a0.data a1.data) fun v6004 => (if (!v6004) = true then (some false) else (Option.bind (l_eqCoreS n a0.kids a1.kids) fun v8004 => (if (!v8004) = true then (some false) else (some true)))))))
end
def l_markInt64S_l1 : Nat → (List Int) → Int → Int → Option (Int × (List Int))
  | 0, _, _, _ => none
  | n + 1, p0_0, p0_1, p0_2 => (if (decide (p0_2 < ((List.length p0_0 : Nat) : Int))) = true then (Option.bind (at? p0_0 p0_2) fun v5003 => (Option.bind (set1? p0_0 p0_2 p0_1) fun v5004_8 => (l_markInt64S_l1 n v5004_8 (IntKind.i64.wrap (p0_1 + 1)) (IntKind.i64.wrap (p0_2 + 1))))) else (some (p0_1, p0_0)))
def l_markInt64S (a0 : List Int) (a1 : Int) : Option (Int × (List Int)) :=
  (l_markInt64S_l1 fuel a0 a1 0)
mutual
def l_markCoreS : Nat → (List Core) → Int → Option (Int × (List Core))
  | 0, _, _ => none
  | n + 1, a0, a1 => (l_markCoreS_l1 n a0 a1 0)
def l_markCoreS_l1 : Nat → (List Core) → Int → Int → Option (Int × (List Core))
  | 0, _, _, _ => none
  | n + 1, p0_0, p0_1, p0_2 => (if (decide (p0_2 < ((List.length p0_0 : Nat) : Int))) = true then (Option.bind (at? p0_0 p0_2) fun v5003 => (Option.bind (set1? p0_0 p0_2 (⟨p0_1, v5003.value, v5003.data, v5003.kids⟩ : Core)) fun v5005_29 => (Option.bind (at? v5005_29 p0_2) fun v7003 => (Option.bind (set1? v5005_29 p0_2 (⟨v7003.kind, (IntKind.i64.wrap (p0_1 + 1)), v7003.data, v7003.kids⟩ : Core)) fun v7005_30 => (Option.bind (at? v7005_30 p0_2) fun v9002 => (Option.bind (l_markInt64S v9002.data (IntKind.i64.wrap ((IntKind.i64.wrap (p0_1 + 1)) + 1))) fun v9006 => (Option.bind (set1? v7005_30 p0_2 (⟨v9002.kind, v9002.value, v9006.2, v9002.kids⟩ : Core)) fun v9006_31 => (Option.bind (at? v9006_31 p0_2) fun v10002 => (Option.bind (l_markCoreS n v10002.kids v9006.1) fun v10006 => (Option.bind (set1? v9006_31 p0_2 (⟨v10002.kind, v10002.value, v10002.data, v10006.2⟩ : Core)) fun v10006_32 => (l_markCoreS_l1 n v10006_32 v10006.1 (IntKind.i64.wrap (p0_2 + 1))))))))))))) else (some (p0_1, p0_0)))
end
def l_markCore (a0 : Core) (a1 : Int) : Option (Int × (List Int) × (List Core)) :=
  (Option.bind (l_markInt64S a0.data a1) fun v2003 => (Option.bind (l_markCoreS fuel a0.kids v2003.1) fun v3003 => (some (v3003.1, v2003.2, v3003.2))))
end Go.Proofs.Ytocpkbclcnjejaa.Ab
