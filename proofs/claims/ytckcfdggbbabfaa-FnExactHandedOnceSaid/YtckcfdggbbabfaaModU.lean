/-
  Models of the functions. Printed by wip/ab/gen.py.
-/
import Derived.Test.YtckcfdggbbabfaaMTyU
import Derived.Test.YtckcfdggbbabfaaMod
namespace Go.Proofs.Ytckcfdggbbabfaa.Ab
set_option linter.unusedVariables false
set_option linter.unusedSimpArgs false
set_option maxRecDepth 20000
set_option maxHeartbeats 4000000
open Go.RowKit

def l_szDequeActor (a0 : DequeActor) (a1 : Int) : Option (Int) :=
  (Option.bind (l_szInt64S a0.todo a1) fun v2003 => (if (decide (v2003 < 0)) = true then (some (-1)) else (some v2003)))
def l_szDequeActorS_l1 : Nat → (List DequeActor) → Int → Int → Option (Int)
  | 0, _, _, _ => none
  | n + 1, a0, p0_0, p0_1 => (if (decide (p0_1 < ((List.length a0 : Nat) : Int))) = true then (Option.bind (at? a0 p0_1) fun v8002 => (Option.bind (l_szDequeActor v8002 p0_0) fun v8005 => (if (decide (v8005 < 0)) = true then (some (-1)) else (l_szDequeActorS_l1 n a0 v8005 (IntKind.i64.wrap (p0_1 + 1)))))) else (some p0_0))
def l_szDequeActorS (a0 : List DequeActor) (a1 : Int) : Option (Int) :=
  (if (decide ((IntKind.i64.wrap (a1 - ((List.length a0 : Nat) : Int))) < 0)) = true then (some (-1)) else (l_szDequeActorS_l1 fuel a0 (IntKind.i64.wrap (a1 - ((List.length a0 : Nat) : Int))) 0))
def l_szHandedS (a0 : List Handed) (a1 : Int) : Option (Int) :=
  (if (decide ((IntKind.i64.wrap (a1 - ((List.length a0 : Nat) : Int))) < 0)) = true then (some (-1)) else (some (IntKind.i64.wrap (a1 - ((List.length a0 : Nat) : Int)))))
def l_szDeque (a0 : Deque) (a1 : Int) : Option (Int) :=
  (Option.bind (l_szInt64S a0.buffer a1) fun v2003 => (if (decide (v2003 < 0)) = true then (some (-1)) else (Option.bind (l_szDequeActorS a0.actors v2003) fun v5003 => (if (decide (v5003 < 0)) = true then (some (-1)) else (Option.bind (l_szHandedS a0.taken v5003) fun v8003 => (if (decide (v8003 < 0)) = true then (some (-1)) else (Option.bind (l_szInt64S a0.refused v8003) fun v11003 => (if (decide (v11003 < 0)) = true then (some (-1)) else (some v11003)))))))))
def l_toDequeActor (a0 : DequeActor) : Option (DequeActor) :=
  (Option.bind (l_toInt64S a0.todo) fun v3002 => (some (⟨v3002, a0.pc, a0.t, a0.b, a0.x⟩ : DequeActor)))
def l_toDequeActorS_l2 : Nat → (List DequeActor) → (List DequeActor) → Int → Option ((List DequeActor))
  | 0, _, _, _ => none
  | n + 1, a0, p1_0, p1_1 => (if (decide (p1_1 < ((List.length a0 : Nat) : Int))) = true then (Option.bind (at? a0 p1_1) fun v6004 => (Option.bind (l_toDequeActor v6004) fun v6006 => (Option.bind (at? p1_0 p1_1) fun v6007 => (Option.bind (set1? p1_0 p1_1 v6006) fun v6008_12 => (l_toDequeActorS_l2 n a0 v6008_12 (IntKind.i64.wrap (p1_1 + 1))))))) else (some p1_0))
def l_toDequeActorS (a0 : List DequeActor) : Option ((List DequeActor)) :=
  (Option.bind (rep? ((List.length a0 : Nat) : Int) (⟨[], 0, 0, 0, 0⟩ : DequeActor)) fun v2002 => (l_toDequeActorS_l2 fuel a0 v2002 0))
def l_toHanded (a0 : Handed) : Option (Handed) :=
  (some a0)
def l_toHandedS_l2 : Nat → (List Handed) → (List Handed) → Int → Option ((List Handed))
  | 0, _, _, _ => none
  | n + 1, a0, p1_0, p1_1 => (if (decide (p1_1 < ((List.length a0 : Nat) : Int))) = true then (Option.bind (at? a0 p1_1) fun v6004 => (Option.bind (l_toHanded v6004) fun v6006 => (Option.bind (at? p1_0 p1_1) fun v6007 => (Option.bind (set1? p1_0 p1_1 v6006) fun v6008_12 => (l_toHandedS_l2 n a0 v6008_12 (IntKind.i64.wrap (p1_1 + 1))))))) else (some p1_0))
def l_toHandedS (a0 : List Handed) : Option ((List Handed)) :=
  (Option.bind (rep? ((List.length a0 : Nat) : Int) (⟨0, 0⟩ : Handed)) fun v2002 => (l_toHandedS_l2 fuel a0 v2002 0))
def l_toDeque (a0 : Deque) : Option (Deque) :=
  (Option.bind (l_toInt64S a0.buffer) fun v5002 => (Option.bind (l_toDequeActorS a0.actors) fun v6002 => (Option.bind (l_toHandedS a0.taken) fun v7002 => (Option.bind (l_toInt64S a0.refused) fun v8002 => (some (⟨a0.top, a0.bottom, v5002, v6002, v7002, v8002⟩ : Deque))))))
def l_eqDequeActor (a0 : DequeActor) (a1 : DequeActor) : Option (Bool) :=
  (Option.bind (l_eqInt64S a0.todo a1.todo) fun v2004 => (if (!v2004) = true then (some false) else (if (!decide (a0.pc = a1.pc)) = true then (some false) else (if (!decide (a0.t = a1.t)) = true then (some false) else (if (!decide (a0.b = a1.b)) = true then (some false) else (if (!decide (a0.x = a1.x)) = true then (some false) else (some true)))))))
def l_eqDequeActorS_l1 : Nat → (List DequeActor) → (List DequeActor) → Int → Option (Bool)
  | 0, _, _, _ => none
  | n + 1, a0, a1, p0_0 => (if (decide (p0_0 < ((List.length a0 : Nat) : Int))) = true then (Option.bind (at? a0 p0_0) fun v7002 => (Option.bind (at? a1 p0_0) fun v7006 => (Option.bind (l_eqDequeActor v7002 v7006) fun v7008 => (if (!v7008) = true then (some false) else (l_eqDequeActorS_l1 n a0 a1 (IntKind.i64.wrap (p0_0 + 1))))))) else (some true))
def l_eqDequeActorS (a0 : List DequeActor) (a1 : List DequeActor) : Option (Bool) :=
  (if (!decide (((List.length a0 : Nat) : Int) = ((List.length a1 : Nat) : Int))) = true then (some false) else (l_eqDequeActorS_l1 fuel a0 a1 0))
def l_eqHanded (a0 : Handed) (a1 : Handed) : Option (Bool) :=
  (if (!decide (a0.actor = a1.actor)) = true then (some false) else (if (!decide (a0.value = a1.value)) = true then (some false) else (some true)))
def l_eqHandedS_l1 : Nat → (List Handed) → (List Handed) → Int → Option (Bool)
  | 0, _, _, _ => none
  | n + 1, a0, a1, p0_0 => (if (decide (p0_0 < ((List.length a0 : Nat) : Int))) = true then (Option.bind (at? a0 p0_0) fun v7002 => (Option.bind (at? a1 p0_0) fun v7006 => (Option.bind (l_eqHanded v7002 v7006) fun v7008 => (if (!v7008) = true then (some false) else (l_eqHandedS_l1 n a0 a1 (IntKind.i64.wrap (p0_0 + 1))))))) else (some true))
def l_eqHandedS (a0 : List Handed) (a1 : List Handed) : Option (Bool) :=
  (if (!decide (((List.length a0 : Nat) : Int) = ((List.length a1 : Nat) : Int))) = true then (some false) else (l_eqHandedS_l1 fuel a0 a1 0))
def l_eqDeque (a0 : Deque) (a1 : Deque) : Option (Bool) :=
  (if (!decide (a0.top = a1.top)) = true then (some false) else (if (!decide (a0.bottom = a1.bottom)) = true then (some false) else (Option.bind (l_eqInt64S a0.buffer a1.buffer) fun v6004 => (if (!v6004) = true then (some false) else (Option.bind (l_eqDequeActorS a0.actors a1.actors) fun v8004 => (if (!v8004) = true then (some false) else (Option.bind (l_eqHandedS a0.taken a1.taken) fun v10004 => (if (!v10004) = true then (some false) else (Option.bind (l_eqInt64S a0.refused a1.refused) fun v12004 => (if (!v12004) = true then (some false) else (some true)))))))))))
end Go.Proofs.Ytckcfdggbbabfaa.Ab
