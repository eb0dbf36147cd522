/-
  Models of the functions. Printed by wip/ab/gen.py.
-/
import Derived.Test.YtgigfdghecdlgaaMTy
namespace Go.Proofs.Ytgigfdghecdlgaa.Ab
set_option linter.unusedVariables false
set_option linter.unusedSimpArgs false
set_option maxRecDepth 20000
set_option maxHeartbeats 4000000
open Go.RowKit

def i_isInt (a0 : Int) : Option (Bool) :=
  (if (decide ((-2147483648) ≤ a0)) = true then (some (decide (a0 ≤ 2147483647))) else (some false))
def i_isOperator (a0 : Int) : Option (Bool) :=
  (if (decide (1 ≤ a0)) = true then (some (decide (a0 ≤ 6))) else (some false))
def i_isDefIndex (a0 : Int) : Option (Bool) :=
  (if (decide (0 ≤ a0)) = true then (some (decide (a0 < 24))) else (some false))
def g_IndexFunc_sint64_l1 : Nat → (List Int) → Int → (Int → Option Bool) → Option (Int)
  | 0, _, _, _ => none
  | n + 1, a0, p0_0, f1 => (if (decide (p0_0 < ((List.length a0 : Nat) : Int))) = true then (Option.bind (at? a0 p0_0) fun v5003 => (Option.bind (f1 v5003) fun v5005 => (if v5005 = true then (some p0_0) else (g_IndexFunc_sint64_l1 n a0 (IntKind.i64.wrap (p0_0 + 1)) f1)))) else (some (-1)))
def g_IndexFunc_sint64 (a0 : List Int) (f1 : (Int → Option Bool)) : Option (Int) :=
  (g_IndexFunc_sint64_l1 fuel a0 0 f1)
def g_ContainsFunc_sint64 (a0 : List Int) (f1 : (Int → Option Bool)) : Option (Bool) :=
  (Option.bind (g_IndexFunc_sint64 a0 f1) fun v2002 => (some (decide (0 ≤ v2002))))
def i_validCoreNode_1 (a0 : Int) : Option (Bool) :=
  (Option.bind (i_isDefIndex a0) fun v2001 => (some (!v2001)))
def i_validCoreNode_j3 (a0 : Core) (p2_0 : Bool) (p2_1 : Bool) (p2_2 : Int) : Option (Bool) :=
  (if p2_0 = true then (if p2_1 = true then (if (decide (((List.length a0.kids : Nat) : Int) = p2_2)) = true then (Option.bind (g_ContainsFunc_sint64 a0.data (fun y0 => i_validCoreNode_1 y0)) fun v27012 => (some (!v27012))) else (some false)) else (some false)) else (some false))
def i_validCoreNode_j2 (a0 : Core) (p1_0 : Bool) : Option (Bool) :=
  (if p1_0 = true then (i_validCoreNode_j3 a0 (decide (a0.value = 0)) (decide (((List.length a0.data : Nat) : Int) = 0)) 2) else (if (decide (a0.kind = 8)) = true then (if (decide (((List.length a0.data : Nat) : Int) = 0)) = true then (if (decide (0 ≤ a0.value)) = true then (if (decide (a0.value < 4)) = true then (some (decide (((List.length a0.kids : Nat) : Int) ≤ 3))) else (some false)) else (some false)) else (some false)) else (if (decide (a0.kind = 9)) = true then (if (decide (1 ≤ ((List.length a0.data : Nat) : Int))) = true then (i_validCoreNode_j3 a0 (decide (a0.value = 0)) (decide (((List.length a0.data : Nat) : Int) ≤ 4)) 1) else (i_validCoreNode_j3 a0 (decide (a0.value = 0)) false 1)) else (if (decide (a0.kind = 10)) = true then (i_validCoreNode_j3 a0 (decide (a0.value = 0)) (decide (((List.length a0.data : Nat) : Int) = 2)) 1) else (if (decide (a0.kind = 11)) = true then (Option.bind (i_isDefIndex a0.value) fun v26002 => (i_validCoreNode_j3 a0 v26002 (decide (((List.length a0.data : Nat) : Int) = 0)) 0)) else (some false))))))
def i_validCoreNode_j1 (a0 : Core) (p0_0 : Bool) : Option (Bool) :=
  (if p0_0 = true then (i_validCoreNode_j3 a0 (decide (a0.value = 0)) (decide (((List.length a0.data : Nat) : Int) = 0)) 1) else (if (decide (a0.kind = 5)) = true then (i_validCoreNode_j2 a0 (decide (a0.kind = 5))) else (i_validCoreNode_j2 a0 (decide (a0.kind = 7)))))
def i_validCoreNode (a0 : Core) : Option (Bool) :=
  (if (decide (a0.kind = 1)) = true then (if (decide (0 ≤ a0.value)) = true then (i_validCoreNode_j3 a0 (decide (a0.value ≤ 255)) (decide (((List.length a0.data : Nat) : Int) = 0)) 0) else (i_validCoreNode_j3 a0 false (decide (((List.length a0.data : Nat) : Int) = 0)) 0)) else (if (decide (a0.kind = 2)) = true then (Option.bind (i_isInt a0.value) fun v10002 => (i_validCoreNode_j3 a0 v10002 (decide (((List.length a0.data : Nat) : Int) = 0)) 0)) else (if (decide (a0.kind = 3)) = true then (Option.bind (i_isOperator a0.value) fun v12002 => (i_validCoreNode_j3 a0 v12002 (decide (((List.length a0.data : Nat) : Int) = 0)) 2)) else (if (decide (a0.kind = 4)) = true then (i_validCoreNode_j1 a0 (decide (a0.kind = 4))) else (i_validCoreNode_j1 a0 (decide (a0.kind = 6)))))))
mutual
def i_coreShape : Nat → Core → Option (Int × Int × Bool)
  | 0, _ => none
  | n + 1, a0 => (Option.bind (i_validCoreNode a0) fun v2001 => (if (!v2001) = true then (some (0, 0, false)) else (i_coreShape_l1 n a0 1 1 0)))
def i_coreShape_l1 : Nat → Core → Int → Int → Int → Option (Int × Int × Bool)
  | 0, _, _, _, _ => none
  | n + 1, a0, p0_0, p0_1, p0_2 => (if (decide (p0_2 < ((List.length a0.kids : Nat) : Int))) = true then (Option.bind (at? a0.kids p0_2) fun v7000 => (Option.bind (i_coreShape n v7000) fun v8001 => (if (!v8001.2.2) = true then (some (0, 0, false)) else (i_coreShape_l1 n a0 (if p0_0 < (IntKind.i64.wrap (v8001.1 + 1)) then (IntKind.i64.wrap (v8001.1 + 1)) else p0_0) (IntKind.i64.wrap (p0_1 + v8001.2.1)) (IntKind.i64.wrap (p0_2 + 1)))))) else (some (p0_0, p0_1, true)))
end
mutual
def i_coreExtent : Nat → Core → Option (Int × Int)
  | 0, _ => none
  | n + 1, a0 => (i_coreExtent_l1 n a0 1 1 0)
def i_coreExtent_l1 : Nat → Core → Int → Int → Int → Option (Int × Int)
  | 0, _, _, _, _ => none
  | n + 1, a0, p0_0, p0_1, p0_2 => (if (decide (p0_2 < ((List.length a0.kids : Nat) : Int))) = true then (Option.bind (at? a0.kids p0_2) fun v5000 => (Option.bind (i_coreExtent n v5000) fun v6001 => (i_coreExtent_l1 n a0 (if p0_0 < (IntKind.i64.wrap (v6001.1 + 1)) then (IntKind.i64.wrap (v6001.1 + 1)) else p0_0) (IntKind.i64.wrap (p0_1 + v6001.2)) (IntKind.i64.wrap (p0_2 + 1))))) else (some (p0_0, p0_1)))
end
def i_coreFits (a0 : Core) : Option (Bool) :=
  (Option.bind (i_coreExtent fuel a0) fun v2001 => (if (decide (v2001.1 ≤ 80)) = true then (some (decide (v2001.2 ≤ 400))) else (some false)))
def i_ValidCore (a0 : Core) : Option (Bool) :=
  (Option.bind (i_coreShape fuel a0) fun v2001 => (if v2001.2.2 = true then (Option.bind (i_coreFits a0) fun v3003 => (some v3003)) else (some false)))
def i_truth (a0 : Bool) : Option (Int) :=
  (if a0 = true then (some 1) else (some 0))
def i_Core_binds (a0 : Core) (a1 : Int) : Option (Int) :=
  (if (decide (a0.kind = 4)) = true then (Option.bind (i_truth true) fun v2012 => (some v2012)) else (if (decide (a0.kind = 7)) = true then (Option.bind (i_truth (decide (a1 = 1))) fun v2012 => (some v2012)) else (Option.bind (i_truth false) fun v2012 => (some v2012))))
mutual
def i_closedBelow : Nat → Core → Int → Option (Bool)
  | 0, _, _ => none
  | n + 1, a0, a1 => (if (decide (a0.kind = 1)) = true then (i_closedBelow_j1 n a0 a1 (decide (a1 ≤ a0.value))) else (i_closedBelow_j1 n a0 a1 false))
def i_closedBelow_j1 : Nat → Core → Int → Bool → Option (Bool)
  | 0, _, _, _ => none
  | n + 1, a0, a1, p0_0 => (if p0_0 = true then (some false) else (i_closedBelow_l3 n a0 a1 0))
def i_closedBelow_l3 : Nat → Core → Int → Int → Option (Bool)
  | 0, _, _, _ => none
  | n + 1, a0, a1, p2_0 => (if (decide (p2_0 < ((List.length a0.kids : Nat) : Int))) = true then (Option.bind (at? a0.kids p2_0) fun v6001 => (Option.bind (i_Core_binds a0 p2_0) fun v7004 => (Option.bind (i_closedBelow n v6001 (IntKind.i64.wrap (a1 + v7004))) fun v7006 => (if (!v7006) = true then (some false) else (i_closedBelow_l3 n a0 a1 (IntKind.i64.wrap (p2_0 + 1))))))) else (some true))
end
def i_IsClosed (a0 : Core) : Option (Bool) :=
  (Option.bind (i_ValidCore a0) fun v2001 => (if v2001 = true then (Option.bind (i_closedBelow fuel a0 0) fun v2004 => (some v2004)) else (some false)))
def g_IndexFunc_simpl_Core_l1 : Nat → (List Core) → Int → (Core → Option Bool) → Option (Int)
  | 0, _, _, _ => none
  | n + 1, a0, p0_0, f1 => (if (decide (p0_0 < ((List.length a0 : Nat) : Int))) = true then (Option.bind (at? a0 p0_0) fun v5003 => (Option.bind (f1 v5003) fun v5005 => (if v5005 = true then (some p0_0) else (g_IndexFunc_simpl_Core_l1 n a0 (IntKind.i64.wrap (p0_0 + 1)) f1)))) else (some (-1)))
def g_IndexFunc_simpl_Core (a0 : List Core) (f1 : (Core → Option Bool)) : Option (Int) :=
  (g_IndexFunc_simpl_Core_l1 fuel a0 0 f1)
def g_ContainsFunc_simpl_Core (a0 : List Core) (f1 : (Core → Option Bool)) : Option (Bool) :=
  (Option.bind (g_IndexFunc_simpl_Core a0 f1) fun v2002 => (some (decide (0 ≤ v2002))))
mutual
def i_anyCore_1 : Nat → Core → (Core → Option Bool) → Option (Bool)
  | 0, _, _ => none
  | n + 1, a0, f1 => (Option.bind (i_anyCore n a0 f1) fun v2002 => (some v2002))
def i_anyCore : Nat → Core → (Core → Option Bool) → Option (Bool)
  | 0, _, _ => none
  | n + 1, a0, f1 => (Option.bind (f1 a0) fun v2002 => (if v2002 = true then (some true) else (Option.bind (g_ContainsFunc_simpl_Core a0.kids (fun y0 => i_anyCore_1 n y0 f1)) fun v2007 => (some v2007))))
end
def i_IsErased_1 (a0 : Core) : Option (Bool) :=
  (if (decide (a0.kind = 6)) = true then (some true) else (some (decide (a0.kind = 7))))
def i_IsErased (a0 : Core) : Option (Bool) :=
  (Option.bind (i_ValidCore a0) fun v2001 => (if v2001 = true then (Option.bind (i_anyCore fuel a0 (fun y0 => i_IsErased_1 y0)) fun v2004 => (some (!v2004))) else (some false)))
def i_CoreSize (a0 : Core) : Option (Int) :=
  (Option.bind (i_ValidCore a0) fun v2001 => (if (!v2001) = true then (some 0) else (Option.bind (i_coreExtent fuel a0) fun v4001 => (some v4001.2))))
def g_IndexFunc_sstring_l1 : Nat → (List ByteArray) → Int → (ByteArray → Option Bool) → Option (Int)
  | 0, _, _, _ => none
  | n + 1, a0, p0_0, f1 => (if (decide (p0_0 < ((List.length a0 : Nat) : Int))) = true then (Option.bind (at? a0 p0_0) fun v5003 => (Option.bind (f1 v5003) fun v5005 => (if v5005 = true then (some p0_0) else (g_IndexFunc_sstring_l1 n a0 (IntKind.i64.wrap (p0_0 + 1)) f1)))) else (some (-1)))
def g_IndexFunc_sstring (a0 : List ByteArray) (f1 : (ByteArray → Option Bool)) : Option (Int) :=
  (g_IndexFunc_sstring_l1 fuel a0 0 f1)
def g_ContainsFunc_sstring (a0 : List ByteArray) (f1 : (ByteArray → Option Bool)) : Option (Bool) :=
  (Option.bind (g_IndexFunc_sstring a0 f1) fun v2002 => (some (decide (0 ≤ v2002))))
def i_labelsFit_1 (a0 : ByteArray) : Option (Bool) :=
  (some (decide (3000 < ((ByteArray.size a0 : Nat) : Int))))
def i_labelsFit (a0 : List ByteArray) : Option (Bool) :=
  (Option.bind (g_ContainsFunc_sstring a0 (fun y0 => i_labelsFit_1 y0)) fun v2001 => (some (!v2001)))
def i_ValidLabelled (a0 : Labelled) : Option (Bool) :=
  (Option.bind (i_IsClosed a0.term) fun v2002 => (if v2002 = true then (Option.bind (i_IsErased a0.term) fun v2006 => (if v2006 = true then (Option.bind (i_CoreSize a0.term) fun v2014 => (if (decide (((List.length a0.labels : Nat) : Int) = v2014)) = true then (Option.bind (i_labelsFit a0.labels) fun v2020 => (some v2020)) else (some false))) else (some false))) else (some false)))
def s_l00In (a0 : Int) (a1 : Int) (a2 : Int) : Option (Bool) :=
  (if (decide (a1 ≤ a0)) = true then (some (decide (a0 ≤ a2))) else (some false))
def s_l06Shape_j3 (a0 : Int) (p2_0 : Bool) : Option (Int × Int × Int × Int) :=
  (if p2_0 = true then (some (1, 1, 0, 0)) else (if (decide (a0 = 8)) = true then (some (0, 3, 0, 0)) else (if (decide (a0 = 9)) = true then (some (1, 1, 1, 4)) else (if (decide (a0 = 10)) = true then (some (1, 1, 2, 2)) else (some (0, (-1), 0, 0))))))
def s_l06Shape_j2 (a0 : Int) (p1_0 : Bool) : Option (Int × Int × Int × Int) :=
  (if p1_0 = true then (some (2, 2, 0, 0)) else (if (decide (a0 = 4)) = true then (s_l06Shape_j3 a0 (decide (a0 = 4))) else (s_l06Shape_j3 a0 (decide (a0 = 6)))))
def s_l06Shape_j1 (a0 : Int) (p0_0 : Bool) : Option (Int × Int × Int × Int) :=
  (if p0_0 = true then (some (0, 0, 0, 0)) else (if (decide (a0 = 3)) = true then (s_l06Shape_j2 a0 (decide (a0 = 3))) else (if (decide (a0 = 5)) = true then (s_l06Shape_j2 a0 (decide (a0 = 5))) else (s_l06Shape_j2 a0 (decide (a0 = 7))))))
def s_l06Shape (a0 : Int) : Option (Int × Int × Int × Int) :=
  (if (decide (a0 = 1)) = true then (s_l06Shape_j1 a0 (decide (a0 = 1))) else (if (decide (a0 = 2)) = true then (s_l06Shape_j1 a0 (decide (a0 = 2))) else (s_l06Shape_j1 a0 (decide (a0 = 11)))))
def s_l06Value (a0 : Core) : Option (Bool) :=
  (if (decide (a0.kind = 1)) = true then (Option.bind (s_l00In a0.value 0 255) fun v4004 => (some v4004)) else (if (decide (a0.kind = 2)) = true then (Option.bind (s_l00In a0.value (-2147483648) 2147483647) fun v6004 => (some v6004)) else (if (decide (a0.kind = 3)) = true then (Option.bind (s_l00In a0.value 1 6) fun v8004 => (some v8004)) else (if (decide (a0.kind = 8)) = true then (Option.bind (s_l00In a0.value 0 3) fun v10004 => (some v10004)) else (if (decide (a0.kind = 11)) = true then (Option.bind (s_l00In a0.value 0 23) fun v12004 => (some v12004)) else (some (decide (a0.value = 0))))))))
mutual
def s_l06Nodes : Nat → Core → Int → Int → Option (Int)
  | 0, _, _, _ => none
  | n + 1, a0, a1, a2 => (Option.bind (s_l06Shape a0.kind) fun v2004 => (if (decide (a1 < 1)) = true then (s_l06Nodes_j1 n a0 a1 a2 true) else (if (decide (a2 < 1)) = true then (s_l06Nodes_j1 n a0 a1 a2 true) else (Option.bind (s_l00In ((List.length a0.kids : Nat) : Int) v2004.1 v2004.2.1) fun v3014 => (if (!v3014) = true then (s_l06Nodes_j1 n a0 a1 a2 true) else (Option.bind (s_l00In ((List.length a0.data : Nat) : Int) v2004.2.2.1 v2004.2.2.2) fun v3025 => (if (!v3025) = true then (s_l06Nodes_j1 n a0 a1 a2 true) else (Option.bind (s_l06Value a0) fun v3030 => (s_l06Nodes_j1 n a0 a1 a2 (!v3030))))))))))
def s_l06Nodes_j1 : Nat → Core → Int → Int → Bool → Option (Int)
  | 0, _, _, _, _ => none
  | n + 1, a0, a1, a2, p0_0 => (if p0_0 = true then (some (-1)) else (s_l06Nodes_l2 n a0 a1 a2 0))
def s_l06Nodes_l2 : Nat → Core → Int → Int → Int → Option (Int)
  | 0, _, _, _, _ => none
  | n + 1, a0, a1, a2, p1_0 => (if (decide (p1_0 < ((List.length a0.data : Nat) : Int))) = true then (Option.bind (at? a0.data p1_0) fun v8005 => (Option.bind (s_l00In v8005 0 23) fun v8007 => (if (!v8007) = true then (some (-1)) else (s_l06Nodes_l2 n a0 a1 a2 (IntKind.i64.wrap (p1_0 + 1)))))) else (s_l06Nodes_l3 n a0 a1 a2 1 0))
def s_l06Nodes_l3 : Nat → Core → Int → Int → Int → Int → Option (Int)
  | 0, _, _, _, _, _ => none
  | n + 1, a0, a1, a2, p2_0, p2_1 => (if (decide (p2_1 < ((List.length a0.kids : Nat) : Int))) = true then (Option.bind (at? a0.kids p2_1) fun v14005 => (Option.bind (s_l06Nodes n v14005 (IntKind.i64.wrap (a1 - 1)) (IntKind.i64.wrap (a2 - p2_0))) fun v14011 => (if (decide (v14011 < 0)) = true then (some (-1)) else (s_l06Nodes_l3 n a0 a1 a2 (IntKind.i64.wrap (p2_0 + v14011)) (IntKind.i64.wrap (p2_1 + 1)))))) else (some p2_0))
end
def s_l06Ok (a0 : Core) : Option (Bool) :=
  (Option.bind (s_l06Nodes fuel a0 80 400) fun v2001 => (some (decide (0 < v2001))))
def s_l06Binds_j1 (p0_0 : Bool) : Option (Int) :=
  (if p0_0 = true then (some 1) else (some 0))
def s_l06Binds (a0 : Core) (a1 : Int) : Option (Int) :=
  (if (decide (a0.kind = 4)) = true then (s_l06Binds_j1 true) else (if (decide (a0.kind = 7)) = true then (s_l06Binds_j1 (decide (a1 = 1))) else (s_l06Binds_j1 false)))
mutual
def s_l06Above : Nat → Core → Int → Option (Bool)
  | 0, _, _ => none
  | n + 1, a0, a1 => (if (decide (a0.kind = 1)) = true then (some (decide (a1 ≤ a0.value))) else (s_l06Above_l1 n a0 a1 0))
def s_l06Above_l1 : Nat → Core → Int → Int → Option (Bool)
  | 0, _, _, _ => none
  | n + 1, a0, a1, p0_0 => (if (decide (p0_0 < ((List.length a0.kids : Nat) : Int))) = true then (Option.bind (at? a0.kids p0_0) fun v7005 => (Option.bind (s_l06Binds a0 p0_0) fun v7009 => (Option.bind (s_l06Above n v7005 (IntKind.i64.wrap (a1 + v7009))) fun v7011 => (if v7011 = true then (some true) else (s_l06Above_l1 n a0 a1 (IntKind.i64.wrap (p0_0 + 1))))))) else (some false))
end
def s_l06Closed (a0 : Core) : Option (Bool) :=
  (Option.bind (s_l06Ok a0) fun v2001 => (if v2001 = true then (Option.bind (s_l06Above fuel a0 0) fun v2004 => (some (!v2004))) else (some false)))
mutual
def s_l06Erased : Nat → Core → Option (Bool)
  | 0, _ => none
  | n + 1, a0 => (if (decide (a0.kind = 6)) = true then (s_l06Erased_j1 n a0 true) else (s_l06Erased_j1 n a0 (decide (a0.kind = 7))))
def s_l06Erased_j1 : Nat → Core → Bool → Option (Bool)
  | 0, _, _ => none
  | n + 1, a0, p0_0 => (if p0_0 = true then (some false) else (s_l06Erased_l2 n a0 0))
def s_l06Erased_l2 : Nat → Core → Int → Option (Bool)
  | 0, _, _ => none
  | n + 1, a0, p1_0 => (if (decide (p1_0 < ((List.length a0.kids : Nat) : Int))) = true then (Option.bind (at? a0.kids p1_0) fun v7005 => (Option.bind (s_l06Erased n v7005) fun v7006 => (if (!v7006) = true then (some false) else (s_l06Erased_l2 n a0 (IntKind.i64.wrap (p1_0 + 1)))))) else (some true))
end
mutual
def s_l08Left : Nat → Core → Int → Option (Int)
  | 0, _, _ => none
  | n + 1, a0, a1 => (s_l08Left_l3 n a0 (IntKind.i64.wrap (a1 - 1)) 0)
def s_l08Left_l3 : Nat → Core → Int → Int → Option (Int)
  | 0, _, _, _ => none
  | n + 1, a0, p0_0, p0_1 => (if (decide (p0_1 < ((List.length a0.kids : Nat) : Int))) = true then (s_l08Left_j4 n a0 p0_0 p0_1 (decide (0 ≤ p0_0))) else (s_l08Left_j4 n a0 p0_0 p0_1 false))
def s_l08Left_j4 : Nat → Core → Int → Int → Bool → Option (Int)
  | 0, _, _, _, _ => none
  | n + 1, a0, p0_0, p0_1, p1_0 => (if p1_0 = true then (Option.bind (at? a0.kids p0_1) fun v6005 => (Option.bind (s_l08Left n v6005 p0_0) fun v6007 => (s_l08Left_l3 n a0 v6007 (IntKind.i64.wrap (p0_1 + 1))))) else (some p0_0))
end
def s_l38Texts_l1 : Nat → (List ByteArray) → Int → Option (Bool)
  | 0, _, _ => none
  | n + 1, a0, p0_0 => (if (decide (p0_0 < ((List.length a0 : Nat) : Int))) = true then (Option.bind (at? a0 p0_0) fun v5002 => (if (decide (3000 < ((ByteArray.size v5002 : Nat) : Int))) = true then (some false) else (s_l38Texts_l1 n a0 (IntKind.i64.wrap (p0_0 + 1))))) else (some true))
def s_l38Texts (a0 : List ByteArray) : Option (Bool) :=
  (s_l38Texts_l1 fuel a0 0)
def s_l38Ok (a0 : Labelled) : Option (Bool) :=
  (Option.bind (s_l06Closed a0.term) fun v2003 => (if v2003 = true then (Option.bind (s_l06Erased fuel a0.term) fun v2008 => (if v2008 = true then (Option.bind (s_l08Left fuel a0.term ((List.length a0.labels : Nat) : Int)) fun v2019 => (if (decide (v2019 = 0)) = true then (Option.bind (s_l38Texts a0.labels) fun v2027 => (some v2027)) else (some false))) else (some false))) else (some false)))
end Go.Proofs.Ytgigfdghecdlgaa.Ab
