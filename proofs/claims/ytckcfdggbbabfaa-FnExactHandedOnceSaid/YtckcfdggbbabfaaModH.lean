/-
  Models of the functions. Printed by wip/ab/gen.py.
-/
import Derived.Test.YtckcfdggbbabfaaManH
import Derived.Test.YtckcfdggbbabfaaModD
namespace Go.Proofs.Ytckcfdggbbabfaa.Ab
set_option linter.unusedVariables false
set_option linter.unusedSimpArgs false
set_option maxRecDepth 20000
set_option maxHeartbeats 4000000
open Go.RowKit

def s_l23Busy_l2 : Nat → Deque → (List Int) → Int → Option ((List Int))
  | 0, _, _, _ => none
  | n + 1, a0, p1_0, p1_1 => (if (decide (p1_1 < ((List.length a0.actors : Nat) : Int))) = true then (Option.bind (at? a0.actors p1_1) fun v6005 => (if (decide (0 < ((List.length v6005.todo : Nat) : Int))) = true then (Option.bind (app? p1_0 [p1_1]) fun v7003 => (s_l23Busy_l2 n a0 v7003 (IntKind.i64.wrap (p1_1 + 1)))) else (s_l23Busy_l2 n a0 p1_0 (IntKind.i64.wrap (p1_1 + 1))))) else (some p1_0))
def s_l23Busy (a0 : Deque) : Option ((List Int)) :=
  (s_l23Busy_l2 fuel a0 [] 0)
def s_l00Same_l1 : Nat → (List Int) → (List Int) → Int → Option (Bool)
  | 0, _, _, _ => none
  | n + 1, a0, a1, p0_0 => (if (decide (p0_0 < ((List.length a0 : Nat) : Int))) = true then (Option.bind (at? a0 p0_0) fun v7002 => (Option.bind (at? a1 p0_0) fun v7006 => (if (!decide (v7002 = v7006)) = true then (some false) else (s_l00Same_l1 n a0 a1 (IntKind.i64.wrap (p0_0 + 1)))))) else (some true))
def s_l00Same (a0 : List Int) (a1 : List Int) : Option (Bool) :=
  (if (!decide (((List.length a0 : Nat) : Int) = ((List.length a1 : Nat) : Int))) = true then (some false) else (s_l00Same_l1 fuel a0 a1 0))
def s_l00Own (a0 : List Int) : Option ((List Int)) :=
  (Option.bind (app? [] a0) fun v2002 => (some v2002))
mutual
def s_l23Sorted_l42 : Nat → (List Int) → Int → Option ((List Int))
  | 0, _, _ => none
  | n + 1, p5_0, p5_1 => (if (decide (p5_1 < ((List.length p5_0 : Nat) : Int))) = true then (s_l23Sorted_l49 n p5_1 p5_0 p5_1) else (some p5_0))
def s_l23Sorted_l49 : Nat → Int → (List Int) → Int → Option ((List Int))
  | 0, _, _, _ => none
  | n + 1, p5_1, p8_0, p8_1 => (if (decide (0 < p8_1)) = true then (Option.bind (at? p8_0 (IntKind.i64.wrap (p8_1 - 1))) fun v7006 => (Option.bind (at? p8_0 p8_1) fun v7010 => (s_l23Sorted_j50 n p5_1 p8_0 p8_1 (decide (v7010 < v7006))))) else (s_l23Sorted_j50 n p5_1 p8_0 p8_1 false))
def s_l23Sorted_j50 : Nat → Int → (List Int) → Int → Bool → Option ((List Int))
  | 0, _, _, _, _ => none
  | n + 1, p5_1, p8_0, p8_1, p9_0 => (if p9_0 = true then (Option.bind (at? p8_0 p8_1) fun v9002 => (Option.bind (at? p8_0 (IntKind.i64.wrap (p8_1 - 1))) fun v10005 => (Option.bind (at? p8_0 p8_1) fun v10007 => (Option.bind (set1? p8_0 p8_1 v10005) fun v10008_143 => (Option.bind (at? v10008_143 (IntKind.i64.wrap (p8_1 - 1))) fun v11004 => (Option.bind (set1? v10008_143 (IntKind.i64.wrap (p8_1 - 1)) v9002) fun v11005_144 => (s_l23Sorted_l49 n p5_1 v11005_144 (IntKind.i64.wrap (p8_1 - 1))))))))) else (s_l23Sorted_l42 n p8_0 (IntKind.i64.wrap (p5_1 + 1))))
end
def s_l23Sorted (a0 : List Int) : Option ((List Int)) :=
  (Option.bind (s_l00Own a0) fun v2001 => (s_l23Sorted_l42 fuel v2001 1))
def s_l23Once_l2 : Nat → Deque → (List Int) → (List Int) → Int → Option (Bool)
  | 0, _, _, _, _ => none
  | n + 1, a0, a1, p1_0, p1_1 => (if (decide (p1_1 < ((List.length a0.taken : Nat) : Int))) = true then (Option.bind (at? a0.taken p1_1) fun v6006 => (Option.bind (app? p1_0 [v6006.value]) fun v6010 => (s_l23Once_l2 n a0 a1 v6010 (IntKind.i64.wrap (p1_1 + 1))))) else (Option.bind (s_l23Sorted p1_0) fun v7001 => (Option.bind (s_l23Sorted a1) fun v7003 => (Option.bind (s_l00Same v7001 v7003) fun v7004 => (some v7004)))))
def s_l23Once (a0 : Deque) (a1 : List Int) : Option (Bool) :=
  (Option.bind (s_l23Left a0) fun v2001 => (Option.bind (app? v2001 a0.refused) fun v2006 => (s_l23Once_l2 fuel a0 a1 v2006 0)))
def s_HandedOnce (a0 : Deque) (a1 : List Int) : Option (Bool) :=
  (Option.bind (s_l23Ok a0) fun v2000 => (if v2000 = true then (Option.bind (s_l23Busy a0) fun v2002 => (if (decide (((List.length v2002 : Nat) : Int) = 0)) = true then (if (decide (((List.length a1 : Nat) : Int) ≤ 3000)) = true then (Option.bind (s_l23Once a0 a1) fun v2013 => (some v2013)) else (some false)) else (some false))) else (some false)))
def g_IndexFunc_simpl_DequeActor_l1 : Nat → (List DequeActor) → Int → (DequeActor → Option Bool) → Option (Int)
  | 0, _, _, _ => none
  | n + 1, a0, p0_0, f1 => (if (decide (p0_0 < ((List.length a0 : Nat) : Int))) = true then (Option.bind (at? a0 p0_0) fun v5003 => (Option.bind (f1 v5003) fun v5005 => (if v5005 = true then (some p0_0) else (g_IndexFunc_simpl_DequeActor_l1 n a0 (IntKind.i64.wrap (p0_0 + 1)) f1)))) else (some (-1)))
def g_IndexFunc_simpl_DequeActor (a0 : List DequeActor) (f1 : (DequeActor → Option Bool)) : Option (Int) :=
  (g_IndexFunc_simpl_DequeActor_l1 fuel a0 0 f1)
def g_ContainsFunc_simpl_DequeActor (a0 : List DequeActor) (f1 : (DequeActor → Option Bool)) : Option (Bool) :=
  (Option.bind (g_IndexFunc_simpl_DequeActor a0 f1) fun v2002 => (some (decide (0 ≤ v2002))))
def i_Deque_isDone_1 (a0 : DequeActor) : Option (Bool) :=
  (some (decide (0 < ((List.length a0.todo : Nat) : Int))))
def i_Deque_isDone (a0 : Deque) : Option (Bool) :=
  (Option.bind (g_ContainsFunc_simpl_DequeActor a0.actors (fun y0 => i_Deque_isDone_1 y0)) fun v2004 => (some (!v2004)))
def i_IsDequeDone (a0 : Deque) : Option (Bool) :=
  (Option.bind (i_ValidDeque a0) fun v2001 => (if v2001 = true then (Option.bind (i_Deque_isDone a0) fun v2003 => (some v2003)) else (some false)))
def g_Concat_sint64_l3 : Nat → (List (List Int)) → (List Int) → Int → Option ((List Int))
  | 0, _, _, _ => none
  | n + 1, a0, p2_0, p2_1 => (if (decide (p2_1 < ((List.length a0 : Nat) : Int))) = true then (Option.bind (at? a0 p2_1) fun v13000 => (Option.bind (app? p2_0 v13000) fun v14002 => (g_Concat_sint64_l3 n a0 v14002 (IntKind.i64.wrap (p2_1 + 1))))) else (some p2_0))
def g_Concat_sint64_l1 : Nat → (List (List Int)) → Int → Int → Option ((List Int))
  | 0, _, _, _ => none
  | n + 1, a0, p0_0, p0_1 => (if (decide (p0_1 < ((List.length a0 : Nat) : Int))) = true then (Option.bind (at? a0 p0_1) fun v5000 => (if (decide ((IntKind.i64.wrap (p0_0 + ((List.length v5000 : Nat) : Int))) < 0)) = true then (none) else (g_Concat_sint64_l1 n a0 (IntKind.i64.wrap (p0_0 + ((List.length v5000 : Nat) : Int))) (IntKind.i64.wrap (p0_1 + 1))))) else (Option.bind (g_Grow_sint64 [] p0_0) fun v10001 => (g_Concat_sint64_l3 fuel a0 v10001 0)))
def g_Concat_sint64 (a0 : List (List Int)) : Option ((List Int)) :=
  (g_Concat_sint64_l1 fuel a0 0 0)
def g_Equal_sint64_l1 : Nat → (List Int) → (List Int) → Int → Option (Bool)
  | 0, _, _, _ => none
  | n + 1, a0, a1, p0_0 => (if (decide (p0_0 < ((List.length a0 : Nat) : Int))) = true then (Option.bind (at? a0 p0_0) fun v7002 => (Option.bind (at? a1 p0_0) fun v7006 => (if (!decide (v7002 = v7006)) = true then (some false) else (g_Equal_sint64_l1 n a0 a1 (IntKind.i64.wrap (p0_0 + 1)))))) else (some true))
def g_Equal_sint64 (a0 : List Int) (a1 : List Int) : Option (Bool) :=
  (if (!decide (((List.length a0 : Nat) : Int) = ((List.length a1 : Nat) : Int))) = true then (some false) else (g_Equal_sint64_l1 fuel a0 a1 0))
def i_Deque_handedOnce_l2 : Nat → Deque → (List Int) → (List Int) → Int → Option (Bool)
  | 0, _, _, _, _ => none
  | n + 1, a0, a1, p1_0, p1_1 => (if (decide (p1_1 < ((List.length a0.taken : Nat) : Int))) = true then (Option.bind (at? a0.taken p1_1) fun v5000 => (Option.bind (app? p1_0 [v5000.value]) fun v6004 => (i_Deque_handedOnce_l2 n a0 a1 v6004 (IntKind.i64.wrap (p1_1 + 1))))) else (Option.bind (g_Sort_sint64 p1_0) fun v8001 => (Option.bind (g_Sorted_int64 a1) fun v9003 => (Option.bind (g_Equal_sint64 v8001 v9003) fun v9004 => (some v9004)))))
def i_Deque_handedOnce (a0 : Deque) (a1 : List Int) : Option (Bool) :=
  (Option.bind (i_Deque_tasksLeft a0) fun v2001 => (Option.bind (g_Concat_sint64 [v2001, a0.refused]) fun v2007 => (i_Deque_handedOnce_l2 fuel a0 a1 v2007 0)))
def i_HandedOnce (a0 : Deque) (a1 : List Int) : Option (Bool) :=
  (Option.bind (i_IsDequeDone a0) fun v2001 => (if v2001 = true then (if (decide (((List.length a1 : Nat) : Int) ≤ 3000)) = true then (Option.bind (i_Deque_handedOnce a0 a1) fun v2009 => (some v2009)) else (some false)) else (some false)))
def l_FnExactHandedOnce (a0 : Deque) (a1 : List Int) : Option (Bool) :=
  (if (decide (1048576 < ((List.length a1 : Nat) : Int))) = true then (some true) else (Option.bind (l_szDeque a0 1048576) fun v5002 => (if (decide (v5002 < 0)) = true then (some true) else (Option.bind (l_toDeque a0) fun v8001 => (Option.bind (l_toInt64S a1) fun v8003 => (Option.bind (s_HandedOnce v8001 v8003) fun v8004 => (Option.bind (l_toDeque a0) fun v9001 => (Option.bind (l_toInt64S a1) fun v10001 => (Option.bind (i_HandedOnce v9001 v10001) fun v11002 => (if (!(v11002 == v8004)) = true then (some false) else (Option.bind (l_toDeque a0) fun v14002 => (Option.bind (l_eqDeque v9001 v14002) fun v14003 => (if (!v14003) = true then (some false) else (Option.bind (l_toInt64S a1) fun v16002 => (Option.bind (l_eqInt64S v10001 v16002) fun v16003 => (if (!v16003) = true then (some false) else (some true)))))))))))))))))
end Go.Proofs.Ytckcfdggbbabfaa.Ab
