/-
  Models of the functions. Printed by wip/ab/gen.py.
-/
import Derived.Test.YtckcfdggbbabfaaModU
namespace Go.Proofs.Ytckcfdggbbabfaa.Ab
set_option linter.unusedVariables false
set_option linter.unusedSimpArgs false
set_option maxRecDepth 20000
set_option maxHeartbeats 4000000
open Go.RowKit

def g_IndexFunc_sint64_l1 : Nat → (List Int) → Int → (Int → Option Bool) → Option (Int)
  | 0, _, _, _ => none
  | n + 1, a0, p0_0, f1 => (if (decide (p0_0 < ((List.length a0 : Nat) : Int))) = true then (Option.bind (at? a0 p0_0) fun v5003 => (Option.bind (f1 v5003) fun v5005 => (if v5005 = true then (some p0_0) else (g_IndexFunc_sint64_l1 n a0 (IntKind.i64.wrap (p0_0 + 1)) f1)))) else (some (-1)))
def g_IndexFunc_sint64 (a0 : List Int) (f1 : (Int → Option Bool)) : Option (Int) :=
  (g_IndexFunc_sint64_l1 fuel a0 0 f1)
def g_ContainsFunc_sint64 (a0 : List Int) (f1 : (Int → Option Bool)) : Option (Bool) :=
  (Option.bind (g_IndexFunc_sint64 a0 f1) fun v2002 => (some (decide (0 ≤ v2002))))
def i_isTask (a0 : Int) : Option (Bool) :=
  (if (decide (1 ≤ a0)) = true then (some (decide (a0 ≤ 1000))) else (some false))
def i_ValidDeque_1 (a0 : Int) : Option (Bool) :=
  (if (!decide (a0 = 0)) = true then (Option.bind (i_isTask a0) fun v2004 => (some (!v2004))) else (some false))
def i_isEnd (a0 : Int) : Option (Bool) :=
  (if (decide (0 ≤ a0)) = true then (some (decide (a0 ≤ 1000))) else (some false))
def i_DequeActor_taking (a0 : DequeActor) : Option (Bool) :=
  (if (decide (0 < ((List.length a0.todo : Nat) : Int))) = true then (Option.bind (at? a0.todo 0) fun v2007 => (if (decide (v2007 = 0)) = true then (some (decide (1 ≤ a0.pc))) else (some false))) else (some false))
def i_validActor_1 (a0 : Int) (a1 : Bool) : Option (Bool) :=
  (if (!decide (a0 = 0)) = true then (if (!a1) = true then (some true) else (Option.bind (i_isTask a0) fun v2007 => (some (!v2007)))) else (some false))
def i_validActor_j4 (a0 : DequeActor) (p2_0 : Int) (p3_0 : Bool) : Option (Bool) :=
  (if (decide (1 ≤ a0.pc)) = true then (if (decide (a0.pc ≤ p2_0)) = true then (Option.bind (i_isEnd a0.t) fun v10012 => (if v10012 = true then (Option.bind (i_isEnd a0.x) fun v10017 => (if v10017 = true then (some p3_0) else (some false))) else (some false))) else (some false)) else (some false))
def i_validActor_j3 (a0 : DequeActor) (a1 : Bool) (p2_0 : Int) : Option (Bool) :=
  (Option.bind (i_isEnd a0.b) fun v9002 => (if v9002 = true then (i_validActor_j4 a0 p2_0 true) else (if (decide (a0.b = (-1))) = true then (if a1 = true then (Option.bind (i_DequeActor_taking a0) fun v9012 => (i_validActor_j4 a0 p2_0 v9012)) else (i_validActor_j4 a0 p2_0 false)) else (i_validActor_j4 a0 p2_0 false))))
def i_validActor_j2 (a0 : DequeActor) (a1 : Bool) (p1_0 : Bool) : Option (Bool) :=
  (if p1_0 = true then (if (decide (a0.pc = 0)) = true then (if (decide (a0.t = 0)) = true then (if (decide (a0.b = 0)) = true then (some (decide (a0.x = 0))) else (some false)) else (some false)) else (some false)) else (Option.bind (at? a0.todo 0) fun v7002 => (if (!decide (v7002 = 0)) = true then (i_validActor_j3 a0 a1 2) else (i_validActor_j3 a0 a1 3))))
def i_validActor_j1 (a0 : DequeActor) (a1 : Bool) (p0_0 : Bool) : Option (Bool) :=
  (if p0_0 = true then (some false) else (if (decide (((List.length a0.todo : Nat) : Int) = 0)) = true then (i_validActor_j2 a0 a1 true) else (i_validActor_j2 a0 a1 (decide (a0.pc = 0)))))
def i_validActor (a0 : DequeActor) (a1 : Bool) : Option (Bool) :=
  (if (decide (10 < ((List.length a0.todo : Nat) : Int))) = true then (i_validActor_j1 a0 a1 true) else (Option.bind (g_ContainsFunc_sint64 a0.todo (fun y0 => i_validActor_1 y0 a1)) fun v2008 => (i_validActor_j1 a0 a1 v2008)))
def g_IndexFunc_simpl_Handed_l1 : Nat → (List Handed) → Int → (Handed → Option Bool) → Option (Int)
  | 0, _, _, _ => none
  | n + 1, a0, p0_0, f1 => (if (decide (p0_0 < ((List.length a0 : Nat) : Int))) = true then (Option.bind (at? a0 p0_0) fun v5003 => (Option.bind (f1 v5003) fun v5005 => (if v5005 = true then (some p0_0) else (g_IndexFunc_simpl_Handed_l1 n a0 (IntKind.i64.wrap (p0_0 + 1)) f1)))) else (some (-1)))
def g_IndexFunc_simpl_Handed (a0 : List Handed) (f1 : (Handed → Option Bool)) : Option (Int) :=
  (g_IndexFunc_simpl_Handed_l1 fuel a0 0 f1)
def g_ContainsFunc_simpl_Handed (a0 : List Handed) (f1 : (Handed → Option Bool)) : Option (Bool) :=
  (Option.bind (g_IndexFunc_simpl_Handed a0 f1) fun v2002 => (some (decide (0 ≤ v2002))))
def i_ValidDeque_2 (a0 : Handed) (a1 : Deque) : Option (Bool) :=
  (if (decide (a0.actor < 0)) = true then (some true) else (if (decide (((List.length a1.actors : Nat) : Int) ≤ a0.actor)) = true then (some true) else (Option.bind (i_isEnd a0.value) fun v2014 => (some (!v2014)))))
def i_ValidDeque_3 (a0 : Int) : Option (Bool) :=
  (Option.bind (i_isTask a0) fun v2001 => (some (!v2001)))
def i_ValidDeque_j6 (a0 : Deque) (p5_0 : Bool) : Option (Bool) :=
  (if p5_0 = true then (some false) else (Option.bind (g_ContainsFunc_simpl_Handed a0.taken (fun y0 => i_ValidDeque_2 y0 a0)) fun v17003 => (if (!v17003) = true then (Option.bind (g_ContainsFunc_sint64 a0.refused (fun y0 => i_ValidDeque_3 y0)) fun v17008 => (some (!v17008))) else (some false))))
def i_ValidDeque_j5 (a0 : Deque) (p4_0 : Bool) : Option (Bool) :=
  (if p4_0 = true then (some false) else (if (decide (1000 < ((List.length a0.taken : Nat) : Int))) = true then (i_ValidDeque_j6 a0 true) else (i_ValidDeque_j6 a0 (decide (1000 < ((List.length a0.refused : Nat) : Int))))))
def i_ValidDeque_l4 : Nat → Deque → Int → Option (Bool)
  | 0, _, _ => none
  | n + 1, a0, p3_0 => (if (decide (p3_0 < ((List.length a0.actors : Nat) : Int))) = true then (Option.bind (at? a0.actors p3_0) fun v8001 => (Option.bind (i_validActor v8001 (decide (p3_0 = 0))) fun v9003 => (if (!v9003) = true then (some false) else (i_ValidDeque_l4 n a0 (IntKind.i64.wrap (p3_0 + 1)))))) else (if (decide (((List.length a0.buffer : Nat) : Int) < (IntKind.i64.wrap (a0.bottom - a0.top)))) = true then (i_ValidDeque_j5 a0 true) else (if (decide ((IntKind.i64.wrap (a0.bottom - a0.top)) < (-1))) = true then (i_ValidDeque_j5 a0 true) else (if (decide ((IntKind.i64.wrap (a0.bottom - a0.top)) = (-1))) = true then (Option.bind (at? a0.actors 0) fun v13015 => (Option.bind (i_DequeActor_taking v13015) fun v13017 => (i_ValidDeque_j5 a0 (!v13017)))) else (i_ValidDeque_j5 a0 false)))))
def i_ValidDeque_j2 (a0 : Deque) (p1_0 : Bool) : Option (Bool) :=
  (if p1_0 = true then (some false) else (i_ValidDeque_l4 fuel a0 0))
def i_ValidDeque_j1 (a0 : Deque) (p0_0 : Bool) : Option (Bool) :=
  (if p0_0 = true then (some false) else (if (decide (((List.length a0.actors : Nat) : Int) < 1)) = true then (i_ValidDeque_j2 a0 true) else (if (decide (4 < ((List.length a0.actors : Nat) : Int))) = true then (i_ValidDeque_j2 a0 true) else (Option.bind (i_isEnd a0.top) fun v4013 => (if (!v4013) = true then (i_ValidDeque_j2 a0 true) else (if (!decide (a0.bottom = (-1))) = true then (Option.bind (i_isEnd a0.bottom) fun v4023 => (i_ValidDeque_j2 a0 (!v4023))) else (i_ValidDeque_j2 a0 false)))))))
def i_ValidDeque (a0 : Deque) : Option (Bool) :=
  (if (decide (((List.length a0.buffer : Nat) : Int) < 1)) = true then (i_ValidDeque_j1 a0 true) else (if (decide (8 < ((List.length a0.buffer : Nat) : Int))) = true then (i_ValidDeque_j1 a0 true) else (Option.bind (g_ContainsFunc_sint64 a0.buffer (fun y0 => i_ValidDeque_1 y0)) fun v2013 => (i_ValidDeque_j1 a0 v2013))))
def s_l00In (a0 : Int) (a1 : Int) (a2 : Int) : Option (Bool) :=
  (if (decide (a1 ≤ a0)) = true then (some (decide (a0 ≤ a2))) else (some false))
def s_l23Task (a0 : Int) : Option (Bool) :=
  (Option.bind (s_l00In a0 1 1000) fun v2001 => (some v2001))
def s_l23Actor_j7 (a0 : DequeActor) (a1 : Bool) (p3_0 : Bool) (p4_0 : Bool) : Option (Bool) :=
  (if p4_0 = true then (some p3_0) else (Option.bind (at? a0.todo 0) fun v12004 => (if (!decide (v12004 = 0)) = true then (if (decide (a0.pc < 3)) = true then (some (decide (0 ≤ a0.b))) else (some false)) else (if a1 = true then (some true) else (some (decide (0 ≤ a0.b)))))))
def s_l23Actor_j6 (a0 : DequeActor) (a1 : Bool) (p3_0 : Bool) : Option (Bool) :=
  (if (decide (a0.pc = 0)) = true then (s_l23Actor_j7 a0 a1 p3_0 true) else (s_l23Actor_j7 a0 a1 p3_0 (decide (((List.length a0.todo : Nat) : Int) = 0))))
mutual
def s_l23Actor_l4 : Nat → DequeActor → Bool → Int → Option (Bool)
  | 0, _, _, _ => none
  | n + 1, a0, a1, p1_0 => (if (decide (p1_0 < ((List.length a0.todo : Nat) : Int))) = true then (Option.bind (at? a0.todo p1_0) fun v7005 => (if (!decide (v7005 = 0)) = true then (if (!a1) = true then (s_l23Actor_j5 n a0 a1 p1_0 true) else (Option.bind (at? a0.todo p1_0) fun v7017 => (Option.bind (s_l23Task v7017) fun v7019 => (s_l23Actor_j5 n a0 a1 p1_0 (!v7019))))) else (s_l23Actor_j5 n a0 a1 p1_0 false))) else (if (decide (a0.pc = 0)) = true then (if (decide (a0.t = 0)) = true then (if (decide (a0.b = 0)) = true then (s_l23Actor_j6 a0 a1 (decide (a0.x = 0))) else (s_l23Actor_j6 a0 a1 false)) else (s_l23Actor_j6 a0 a1 false)) else (s_l23Actor_j6 a0 a1 false)))
def s_l23Actor_j5 : Nat → DequeActor → Bool → Int → Bool → Option (Bool)
  | 0, _, _, _, _ => none
  | n + 1, a0, a1, p1_0, p2_0 => (if p2_0 = true then (some false) else (s_l23Actor_l4 n a0 a1 (IntKind.i64.wrap (p1_0 + 1))))
end
def s_l23Actor_j1 (a0 : DequeActor) (a1 : Bool) (p0_0 : Bool) : Option (Bool) :=
  (if p0_0 = true then (some false) else (s_l23Actor_l4 fuel a0 a1 0))
def s_l23Actor (a0 : DequeActor) (a1 : Bool) : Option (Bool) :=
  (if (decide (10 < ((List.length a0.todo : Nat) : Int))) = true then (s_l23Actor_j1 a0 a1 true) else (Option.bind (s_l00In a0.pc 0 3) fun v2011 => (if (!v2011) = true then (s_l23Actor_j1 a0 a1 true) else (Option.bind (s_l00In a0.t 0 1000) fun v2019 => (if (!v2019) = true then (s_l23Actor_j1 a0 a1 true) else (Option.bind (s_l00In a0.b (-1) 1000) fun v2027 => (if (!v2027) = true then (s_l23Actor_j1 a0 a1 true) else (Option.bind (s_l00In a0.x 0 1000) fun v2035 => (s_l23Actor_j1 a0 a1 (!v2035))))))))))
def s_l23Room_j2 (a0 : Deque) (p1_0 : Int) : Option (Bool) :=
  (Option.bind (s_l00In (IntKind.i64.wrap (a0.bottom - a0.top)) p1_0 ((List.length a0.buffer : Nat) : Int)) fun v6015 => (some v6015))
def s_l23Room_j1 (a0 : Deque) (p0_0 : Bool) : Option (Bool) :=
  (if p0_0 = true then (s_l23Room_j2 a0 (-1)) else (s_l23Room_j2 a0 0))
def s_l23Room (a0 : Deque) : Option (Bool) :=
  (Option.bind (at? a0.actors 0) fun v2004 => (if (decide (0 < v2004.pc)) = true then (Option.bind (at? v2004.todo 0) fun v4010 => (s_l23Room_j1 a0 (decide (v4010 = 0)))) else (s_l23Room_j1 a0 false)))
def s_l23Ok_l11 : Nat → Deque → Int → Option (Bool)
  | 0, _, _ => none
  | n + 1, a0, p6_0 => (if (decide (p6_0 < ((List.length a0.refused : Nat) : Int))) = true then (Option.bind (at? a0.refused p6_0) fun v23005 => (Option.bind (s_l23Task v23005) fun v23007 => (if (!v23007) = true then (some false) else (s_l23Ok_l11 n a0 (IntKind.i64.wrap (p6_0 + 1)))))) else (Option.bind (s_l23Room a0) fun v25001 => (some v25001)))
mutual
def s_l23Ok_l9 : Nat → Deque → Int → Option (Bool)
  | 0, _, _ => none
  | n + 1, a0, p4_0 => (if (decide (p4_0 < ((List.length a0.taken : Nat) : Int))) = true then (Option.bind (at? a0.taken p4_0) fun v18005 => (Option.bind (s_l00In v18005.actor 0 (IntKind.i64.wrap (((List.length a0.actors : Nat) : Int) - 1))) fun v18014 => (if (!v18014) = true then (s_l23Ok_j10 n a0 p4_0 true) else (Option.bind (at? a0.taken p4_0) fun v18022 => (Option.bind (s_l00In v18022.value 0 1000) fun v18025 => (s_l23Ok_j10 n a0 p4_0 (!v18025))))))) else (s_l23Ok_l11 fuel a0 0))
def s_l23Ok_j10 : Nat → Deque → Int → Bool → Option (Bool)
  | 0, _, _, _ => none
  | n + 1, a0, p4_0, p5_0 => (if p5_0 = true then (some false) else (s_l23Ok_l9 n a0 (IntKind.i64.wrap (p4_0 + 1))))
end
def s_l23Ok_l6 : Nat → Deque → Int → Option (Bool)
  | 0, _, _ => none
  | n + 1, a0, p3_0 => (if (decide (p3_0 < ((List.length a0.actors : Nat) : Int))) = true then (Option.bind (at? a0.actors p3_0) fun v13005 => (Option.bind (s_l23Actor v13005 (decide (p3_0 = 0))) fun v13008 => (if (!v13008) = true then (some false) else (s_l23Ok_l6 n a0 (IntKind.i64.wrap (p3_0 + 1)))))) else (s_l23Ok_l9 fuel a0 0))
mutual
def s_l23Ok_l4 : Nat → Deque → Int → Option (Bool)
  | 0, _, _ => none
  | n + 1, a0, p1_0 => (if (decide (p1_0 < ((List.length a0.buffer : Nat) : Int))) = true then (Option.bind (at? a0.buffer p1_0) fun v8005 => (if (!decide (v8005 = 0)) = true then (Option.bind (at? a0.buffer p1_0) fun v8014 => (Option.bind (s_l23Task v8014) fun v8016 => (s_l23Ok_j5 n a0 p1_0 (!v8016)))) else (s_l23Ok_j5 n a0 p1_0 false))) else (s_l23Ok_l6 fuel a0 0))
def s_l23Ok_j5 : Nat → Deque → Int → Bool → Option (Bool)
  | 0, _, _, _ => none
  | n + 1, a0, p1_0, p2_0 => (if p2_0 = true then (some false) else (s_l23Ok_l4 n a0 (IntKind.i64.wrap (p1_0 + 1))))
end
def s_l23Ok_j1 (a0 : Deque) (p0_0 : Bool) : Option (Bool) :=
  (if p0_0 = true then (some false) else (s_l23Ok_l4 fuel a0 0))
def s_l23Ok (a0 : Deque) : Option (Bool) :=
  (Option.bind (s_l00In ((List.length a0.buffer : Nat) : Int) 1 8) fun v3001 => (if (!v3001) = true then (s_l23Ok_j1 a0 true) else (Option.bind (s_l00In a0.top 0 1000) fun v3008 => (if (!v3008) = true then (s_l23Ok_j1 a0 true) else (Option.bind (s_l00In a0.bottom (-1) 1000) fun v3016 => (if (!v3016) = true then (s_l23Ok_j1 a0 true) else (Option.bind (s_l00In ((List.length a0.actors : Nat) : Int) 1 4) fun v3025 => (if (!v3025) = true then (s_l23Ok_j1 a0 true) else (if (decide (1000 < ((List.length a0.taken : Nat) : Int))) = true then (s_l23Ok_j1 a0 true) else (s_l23Ok_j1 a0 (decide (1000 < ((List.length a0.refused : Nat) : Int)))))))))))))
def s_l23At (a0 : Deque) (a1 : Int) : Option (Int) :=
  (Option.bind (nz? ((List.length a0.buffer : Nat) : Int)) fun v3002 => (Option.bind (nz? ((List.length a0.buffer : Nat) : Int)) fun v3006 => (some (Int.tmod (IntKind.i64.wrap ((Int.tmod a1 ((List.length a0.buffer : Nat) : Int)) + ((List.length a0.buffer : Nat) : Int))) ((List.length a0.buffer : Nat) : Int)))))
def s_l23Left_l2 : Nat → Deque → (List Int) → Int → Option ((List Int))
  | 0, _, _, _ => none
  | n + 1, a0, p1_0, p1_1 => (if (decide (p1_1 < a0.bottom)) = true then (Option.bind (s_l23At a0 p1_1) fun v6007 => (Option.bind (at? a0.buffer v6007) fun v6008 => (Option.bind (app? p1_0 [v6008]) fun v6011 => (s_l23Left_l2 n a0 v6011 (IntKind.i64.wrap (p1_1 + 1)))))) else (some p1_0))
def s_l23Left (a0 : Deque) : Option ((List Int)) :=
  (s_l23Left_l2 fuel a0 [] a0.top)
def i_Deque_place (a0 : Deque) (a1 : Int) : Option (Int) :=
  (Option.bind (nz? ((List.length a0.buffer : Nat) : Int)) fun v3006 => (Option.bind (nz? ((List.length a0.buffer : Nat) : Int)) fun v3010 => (Option.bind (at? a0.buffer (Int.tmod (IntKind.i64.wrap ((Int.tmod a1 ((List.length a0.buffer : Nat) : Int)) + ((List.length a0.buffer : Nat) : Int))) ((List.length a0.buffer : Nat) : Int))) fun v3011 => (some v3011))))
def i_Deque_tasksLeft_l1 : Nat → Deque → (List Int) → Int → Option ((List Int))
  | 0, _, _, _ => none
  | n + 1, a0, p0_0, p0_1 => (if (decide (p0_1 < a0.bottom)) = true then (Option.bind (i_Deque_place a0 p0_1) fun v6003 => (Option.bind (app? p0_0 [v6003]) fun v6007 => (i_Deque_tasksLeft_l1 n a0 v6007 (IntKind.i64.wrap (p0_1 + 1))))) else (some p0_0))
def i_Deque_tasksLeft (a0 : Deque) : Option ((List Int)) :=
  (i_Deque_tasksLeft_l1 fuel a0 [] a0.top)
end Go.Proofs.Ytckcfdggbbabfaa.Ab
