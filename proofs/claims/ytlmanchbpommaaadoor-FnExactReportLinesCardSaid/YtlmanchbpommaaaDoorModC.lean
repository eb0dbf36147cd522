/-
  Models of the functions. Printed by wip/ab/gen.py.
-/
import Derived.Test.YtlmanchbpommaaaDoorMTyC
import Derived.Test.YtlmanchbpommaaaDoorModF
namespace Go.Proofs.YtlmanchbpommaaaDoor.Ab
set_option linter.unusedVariables false
set_option linter.unusedSimpArgs false
set_option maxRecDepth 20000
set_option maxHeartbeats 4000000
open Go.RowKit

def i_isOperator (a0 : Int) : Option (Bool) :=
  (if (decide (1 ≤ a0)) = true then (some (decide (a0 ≤ 6))) else (some false))
def i_isInt (a0 : Int) : Option (Bool) :=
  (if (decide ((-2147483648) ≤ a0)) = true then (some (decide (a0 ≤ 2147483647))) else (some false))
def i_isDefIndex (a0 : Int) : Option (Bool) :=
  (if (decide (0 ≤ a0)) = true then (some (decide (a0 < 24))) else (some false))
def g_IndexFunc_sint64_l1 : Nat → (List Int) → Int → (Int → Option Bool) → Option (Int)
  | 0, _, _, _ => none
  | n + 1, a0, p0_0, f1 => (if (decide (p0_0 < ((List.length a0 : Nat) : Int))) = true then (Option.bind (at? a0 p0_0) fun v5003 => (Option.bind (f1 v5003) fun v5005 => (if v5005 = true then (some p0_0) else (g_IndexFunc_sint64_l1 n a0 (IntKind.i64.wrap (p0_0 + 1)) f1)))) else (some (-1)))
def g_IndexFunc_sint64 (a0 : List Int) (f1 : (Int → Option Bool)) : Option (Int) :=
  (g_IndexFunc_sint64_l1 fuel a0 0 f1)
def g_ContainsFunc_sint64 (a0 : List Int) (f1 : (Int → Option Bool)) : Option (Bool) :=
  (Option.bind (g_IndexFunc_sint64 a0 f1) fun v2002 => (some (decide (0 ≤ v2002))))
def i_validCoreNode_1 (a0 : Int) : Option (Bool) :=
  (Option.bind (i_isDefIndex a0) fun v2001 => (some (!v2001)))
def i_validCoreNode_j3 (a0 : Core) (p2_0 : Bool) (p2_1 : Bool) (p2_2 : Int) : Option (Bool) :=
  (if p2_0 = true then (if p2_1 = true then (if (decide (((List.length a0.kids : Nat) : Int) = p2_2)) = true then (Option.bind (g_ContainsFunc_sint64 a0.data (fun y0 => i_validCoreNode_1 y0)) fun v27012 => (some (!v27012))) else (some false)) else (some false)) else (some false))
def i_validCoreNode_j2 (a0 : Core) (p1_0 : Bool) : Option (Bool) :=
  (if p1_0 = true then (i_validCoreNode_j3 a0 (decide (a0.value = 0)) (decide (((List.length a0.data : Nat) : Int) = 0)) 2) else (if (decide (a0.kind = 8)) = true then (if (decide (((List.length a0.data : Nat) : Int) = 0)) = true then (if (decide (0 ≤ a0.value)) = true then (if (decide (a0.value < 4)) = true then (some (decide (((List.length a0.kids : Nat) : Int) ≤ 3))) else (some false)) else (some false)) else (some false)) else (if (decide (a0.kind = 9)) = true then (if (decide (1 ≤ ((List.length a0.data : Nat) : Int))) = true then (i_validCoreNode_j3 a0 (decide (a0.value = 0)) (decide (((List.length a0.data : Nat) : Int) ≤ 4)) 1) else (i_validCoreNode_j3 a0 (decide (a0.value = 0)) false 1)) else (if (decide (a0.kind = 10)) = true then (i_validCoreNode_j3 a0 (decide (a0.value = 0)) (decide (((List.length a0.data : Nat) : Int) = 2)) 1) else (if (decide (a0.kind = 11)) = true then (Option.bind (i_isDefIndex a0.value) fun v26002 => (i_validCoreNode_j3 a0 v26002 (decide (((List.length a0.data : Nat) : Int) = 0)) 0)) else (some false))))))
def i_validCoreNode_j1 (a0 : Core) (p0_0 : Bool) : Option (Bool) :=
  (if p0_0 = true then (i_validCoreNode_j3 a0 (decide (a0.value = 0)) (decide (((List.length a0.data : Nat) : Int) = 0)) 1) else (if (decide (a0.kind = 5)) = true then (i_validCoreNode_j2 a0 (decide (a0.kind = 5))) else (i_validCoreNode_j2 a0 (decide (a0.kind = 7)))))
def i_validCoreNode (a0 : Core) : Option (Bool) :=
  (if (decide (a0.kind = 1)) = true then (if (decide (0 ≤ a0.value)) = true then (i_validCoreNode_j3 a0 (decide (a0.value ≤ 255)) (decide (((List.length a0.data : Nat) : Int) = 0)) 0) else (i_validCoreNode_j3 a0 false (decide (((List.length a0.data : Nat) : Int) = 0)) 0)) else (if (decide (a0.kind = 2)) = true then (Option.bind (i_isInt a0.value) fun v10002 => (i_validCoreNode_j3 a0 v10002 (decide (((List.length a0.data : Nat) : Int) = 0)) 0)) else (if (decide (a0.kind = 3)) = true then (Option.bind (i_isOperator a0.value) fun v12002 => (i_validCoreNode_j3 a0 v12002 (decide (((List.length a0.data : Nat) : Int) = 0)) 2)) else (if (decide (a0.kind = 4)) = true then (i_validCoreNode_j1 a0 (decide (a0.kind = 4))) else (i_validCoreNode_j1 a0 (decide (a0.kind = 6)))))))
mutual
def i_coreShape : Nat → Core → Option (Int × Int × Bool)
  | 0, _ => none
  | n + 1, a0 => (Option.bind (i_validCoreNode a0) fun v2001 => (if (!v2001) = true then (some (0, 0, false)) else (i_coreShape_l1 n a0 1 1 0)))
def i_coreShape_l1 : Nat → Core → Int → Int → Int → Option (Int × Int × Bool)
  | 0, _, _, _, _ => none
  | n + 1, a0, p0_0, p0_1, p0_2 => (if (decide (p0_2 < ((List.length a0.kids : Nat) : Int))) = true then (Option.bind (at? a0.kids p0_2) fun v7000 => (Option.bind (i_coreShape n v7000) fun v8001 => (if (!v8001.2.2) = true then (some (0, 0, false)) else (i_coreShape_l1 n a0 (if p0_0 < (IntKind.i64.wrap (v8001.1 + 1)) then (IntKind.i64.wrap (v8001.1 + 1)) else p0_0) (IntKind.i64.wrap (p0_1 + v8001.2.1)) (IntKind.i64.wrap (p0_2 + 1)))))) else (some (p0_0, p0_1, true)))
end
mutual
def i_coreExtent : Nat → Core → Option (Int × Int)
  | 0, _ => none
  | n + 1, a0 => (i_coreExtent_l1 n a0 1 1 0)
def i_coreExtent_l1 : Nat → Core → Int → Int → Int → Option (Int × Int)
  | 0, _, _, _, _ => none
  | n + 1, a0, p0_0, p0_1, p0_2 => (if (decide (p0_2 < ((List.length a0.kids : Nat) : Int))) = true then (Option.bind (at? a0.kids p0_2) fun v5000 => (Option.bind (i_coreExtent n v5000) fun v6001 => (i_coreExtent_l1 n a0 (if p0_0 < (IntKind.i64.wrap (v6001.1 + 1)) then (IntKind.i64.wrap (v6001.1 + 1)) else p0_0) (IntKind.i64.wrap (p0_1 + v6001.2)) (IntKind.i64.wrap (p0_2 + 1))))) else (some (p0_0, p0_1)))
end
def i_coreFits (a0 : Core) : Option (Bool) :=
  (Option.bind (i_coreExtent fuel a0) fun v2001 => (if (decide (v2001.1 ≤ 80)) = true then (some (decide (v2001.2 ≤ 400))) else (some false)))
def i_ValidCore (a0 : Core) : Option (Bool) :=
  (Option.bind (i_coreShape fuel a0) fun v2001 => (if v2001.2.2 = true then (Option.bind (i_coreFits a0) fun v3003 => (some v3003)) else (some false)))
def i_decimals_l1 : Nat → (List Int) → (List ByteArray) → Int → Option (ByteArray)
  | 0, _, _, _ => none
  | n + 1, a0, p0_0, p0_1 => (if (decide (p0_1 < ((List.length a0 : Nat) : Int))) = true then (Option.bind (at? a0 p0_1) fun v5000 => (Option.bind (i_Decimal v5000) fun v6002 => (Option.bind (app? p0_0 [v6002]) fun v6004 => (i_decimals_l1 n a0 v6004 (IntKind.i64.wrap (p0_1 + 1)))))) else (Option.bind (g_Join p0_0 (ByteArray.mk #[32])) fun v8001 => (some v8001)))
def i_decimals (a0 : List Int) : Option (ByteArray) :=
  (i_decimals_l1 fuel a0 [] 0)
def i_OperatorText (a0 : Int) : Option (ByteArray) :=
  (Option.bind (i_isOperator a0) fun v2001 => (if (!v2001) = true then (some (ByteArray.mk #[])) else (Option.bind (cutB (ByteArray.mk #[43, 45, 42, 47, 60, 61]) (IntKind.i64.wrap (a0 - 1)) a0) fun v4003 => (some v4003))))
mutual
def i_coreText : Nat → Core → Option (ByteArray)
  | 0, _ => none
  | n + 1, a0 => (i_coreText_l2 n a0 [] 0)
def i_coreText_l2 : Nat → Core → (List ByteArray) → Int → Option (ByteArray)
  | 0, _, _, _ => none
  | n + 1, a0, p1_0, p1_1 => (if (decide (p1_1 < ((List.length a0.kids : Nat) : Int))) = true then (Option.bind (at? a0.kids p1_1) fun v5000 => (Option.bind (i_coreText n v5000) fun v6002 => (Option.bind (app? p1_0 [v6002]) fun v6004 => (i_coreText_l2 n a0 v6004 (IntKind.i64.wrap (p1_1 + 1)))))) else (if (decide (a0.kind = 1)) = true then (Option.bind (i_Decimal a0.value) fun v10002 => (Option.bind (sapp? (ByteArray.mk #[35]) v10002) fun v10003 => (some v10003))) else (if (decide (a0.kind = 3)) = true then (Option.bind (at? p1_0 0) fun v12001 => (Option.bind (sapp? (ByteArray.mk #[40]) v12001) fun v12003 => (Option.bind (sapp? v12003 (ByteArray.mk #[32])) fun v12004 => (Option.bind (i_OperatorText a0.value) fun v12007 => (Option.bind (sapp? v12004 v12007) fun v12008 => (Option.bind (sapp? v12008 (ByteArray.mk #[32])) fun v12009 => (Option.bind (at? p1_0 1) fun v12011 => (Option.bind (sapp? v12009 v12011) fun v12013 => (Option.bind (sapp? v12013 (ByteArray.mk #[41])) fun v12014 => (some v12014)))))))))) else (if (decide (a0.kind = 4)) = true then (Option.bind (at? p1_0 0) fun v14001 => (Option.bind (sapp? (ByteArray.mk #[94]) v14001) fun v14003 => (some v14003))) else (if (decide (a0.kind = 5)) = true then (Option.bind (at? p1_0 0) fun v16001 => (Option.bind (sapp? (ByteArray.mk #[40]) v16001) fun v16003 => (Option.bind (sapp? v16003 (ByteArray.mk #[32])) fun v16004 => (Option.bind (at? p1_0 1) fun v16006 => (Option.bind (sapp? v16004 v16006) fun v16008 => (Option.bind (sapp? v16008 (ByteArray.mk #[41])) fun v16009 => (some v16009))))))) else (if (decide (a0.kind = 6)) = true then (Option.bind (at? p1_0 0) fun v18001 => (Option.bind (sapp? (ByteArray.mk #[33]) v18001) fun v18003 => (some v18003))) else (if (decide (a0.kind = 7)) = true then (Option.bind (at? p1_0 0) fun v20001 => (Option.bind (sapp? (ByteArray.mk #[40, 108, 101, 116, 32]) v20001) fun v20003 => (Option.bind (sapp? v20003 (ByteArray.mk #[32, 105, 110, 32])) fun v20004 => (Option.bind (at? p1_0 1) fun v20006 => (Option.bind (sapp? v20004 v20006) fun v20008 => (Option.bind (sapp? v20008 (ByteArray.mk #[41])) fun v20009 => (some v20009))))))) else (if (decide (a0.kind = 8)) = true then (Option.bind (i_Decimal a0.value) fun v22002 => (Option.bind (app? [v22002] p1_0) fun v22005 => (Option.bind (g_Join v22005 (ByteArray.mk #[32])) fun v22006 => (Option.bind (sapp? (ByteArray.mk #[60]) v22006) fun v22007 => (Option.bind (sapp? v22007 (ByteArray.mk #[62])) fun v22008 => (some v22008)))))) else (if (decide (a0.kind = 9)) = true then (Option.bind (i_decimals a0.data) fun v24002 => (Option.bind (sapp? (ByteArray.mk #[91]) v24002) fun v24003 => (Option.bind (sapp? v24003 (ByteArray.mk #[58])) fun v24004 => (Option.bind (at? p1_0 0) fun v24006 => (Option.bind (sapp? v24004 v24006) fun v24008 => (Option.bind (sapp? v24008 (ByteArray.mk #[93])) fun v24009 => (some v24009))))))) else (if (decide (a0.kind = 10)) = true then (Option.bind (i_decimals a0.data) fun v26002 => (Option.bind (sapp? (ByteArray.mk #[123]) v26002) fun v26003 => (Option.bind (sapp? v26003 (ByteArray.mk #[58])) fun v26004 => (Option.bind (at? p1_0 0) fun v26006 => (Option.bind (sapp? v26004 v26006) fun v26008 => (Option.bind (sapp? v26008 (ByteArray.mk #[125])) fun v26009 => (some v26009))))))) else (if (decide (a0.kind = 11)) = true then (Option.bind (i_Decimal a0.value) fun v28002 => (Option.bind (sapp? (ByteArray.mk #[64]) v28002) fun v28003 => (some v28003))) else (Option.bind (i_Decimal a0.value) fun v29002 => (some v29002)))))))))))))
end
def i_CoreText (a0 : Core) : Option (ByteArray) :=
  (Option.bind (i_ValidCore a0) fun v2001 => (if (!v2001) = true then (some (ByteArray.mk #[])) else (Option.bind (i_coreText fuel a0) fun v4001 => (some v4001))))
def s_l06Shape_j3 (a0 : Int) (p2_0 : Bool) : Option (Int × Int × Int × Int) :=
  (if p2_0 = true then (some (1, 1, 0, 0)) else (if (decide (a0 = 8)) = true then (some (0, 3, 0, 0)) else (if (decide (a0 = 9)) = true then (some (1, 1, 1, 4)) else (if (decide (a0 = 10)) = true then (some (1, 1, 2, 2)) else (some (0, (-1), 0, 0))))))
def s_l06Shape_j2 (a0 : Int) (p1_0 : Bool) : Option (Int × Int × Int × Int) :=
  (if p1_0 = true then (some (2, 2, 0, 0)) else (if (decide (a0 = 4)) = true then (s_l06Shape_j3 a0 (decide (a0 = 4))) else (s_l06Shape_j3 a0 (decide (a0 = 6)))))
def s_l06Shape_j1 (a0 : Int) (p0_0 : Bool) : Option (Int × Int × Int × Int) :=
  (if p0_0 = true then (some (0, 0, 0, 0)) else (if (decide (a0 = 3)) = true then (s_l06Shape_j2 a0 (decide (a0 = 3))) else (if (decide (a0 = 5)) = true then (s_l06Shape_j2 a0 (decide (a0 = 5))) else (s_l06Shape_j2 a0 (decide (a0 = 7))))))
def s_l06Shape (a0 : Int) : Option (Int × Int × Int × Int) :=
  (if (decide (a0 = 1)) = true then (s_l06Shape_j1 a0 (decide (a0 = 1))) else (if (decide (a0 = 2)) = true then (s_l06Shape_j1 a0 (decide (a0 = 2))) else (s_l06Shape_j1 a0 (decide (a0 = 11)))))
def s_l00In (a0 : Int) (a1 : Int) (a2 : Int) : Option (Bool) :=
  (if (decide (a1 ≤ a0)) = true then (some (decide (a0 ≤ a2))) else (some false))
def s_l06Value (a0 : Core) : Option (Bool) :=
  (if (decide (a0.kind = 1)) = true then (Option.bind (s_l00In a0.value 0 255) fun v4004 => (some v4004)) else (if (decide (a0.kind = 2)) = true then (Option.bind (s_l00In a0.value (-2147483648) 2147483647) fun v6004 => (some v6004)) else (if (decide (a0.kind = 3)) = true then (Option.bind (s_l00In a0.value 1 6) fun v8004 => (some v8004)) else (if (decide (a0.kind = 8)) = true then (Option.bind (s_l00In a0.value 0 3) fun v10004 => (some v10004)) else (if (decide (a0.kind = 11)) = true then (Option.bind (s_l00In a0.value 0 23) fun v12004 => (some v12004)) else (some (decide (a0.value = 0))))))))
mutual
def s_l06Nodes : Nat → Core → Int → Int → Option (Int)
  | 0, _, _, _ => none
  | n + 1, a0, a1, a2 => (Option.bind (s_l06Shape a0.kind) fun v2004 => (if (decide (a1 < 1)) = true then (s_l06Nodes_j1 n a0 a1 a2 true) else (if (decide (a2 < 1)) = true then (s_l06Nodes_j1 n a0 a1 a2 true) else (Option.bind (s_l00In ((List.length a0.kids : Nat) : Int) v2004.1 v2004.2.1) fun v3014 => (if (!v3014) = true then (s_l06Nodes_j1 n a0 a1 a2 true) else (Option.bind (s_l00In ((List.length a0.data : Nat) : Int) v2004.2.2.1 v2004.2.2.2) fun v3025 => (if (!v3025) = true then (s_l06Nodes_j1 n a0 a1 a2 true) else (Option.bind (s_l06Value a0) fun v3030 => (s_l06Nodes_j1 n a0 a1 a2 (!v3030))))))))))
def s_l06Nodes_j1 : Nat → Core → Int → Int → Bool → Option (Int)
  | 0, _, _, _, _ => none
  | n + 1, a0, a1, a2, p0_0 => (if p0_0 = true then (some (-1)) else (s_l06Nodes_l2 n a0 a1 a2 0))
def s_l06Nodes_l2 : Nat → Core → Int → Int → Int → Option (Int)
  | 0, _, _, _, _ => none
  | n + 1, a0, a1, a2, p1_0 => (if (decide (p1_0 < ((List.length a0.data : Nat) : Int))) = true then (Option.bind (at? a0.data p1_0) fun v8005 => (Option.bind (s_l00In v8005 0 23) fun v8007 => (if (!v8007) = true then (some (-1)) else (s_l06Nodes_l2 n a0 a1 a2 (IntKind.i64.wrap (p1_0 + 1)))))) else (s_l06Nodes_l3 n a0 a1 a2 1 0))
def s_l06Nodes_l3 : Nat → Core → Int → Int → Int → Int → Option (Int)
  | 0, _, _, _, _, _ => none
  | n + 1, a0, a1, a2, p2_0, p2_1 => (if (decide (p2_1 < ((List.length a0.kids : Nat) : Int))) = true then (Option.bind (at? a0.kids p2_1) fun v14005 => (Option.bind (s_l06Nodes n v14005 (IntKind.i64.wrap (a1 - 1)) (IntKind.i64.wrap (a2 - p2_0))) fun v14011 => (if (decide (v14011 < 0)) = true then (some (-1)) else (s_l06Nodes_l3 n a0 a1 a2 (IntKind.i64.wrap (p2_0 + v14011)) (IntKind.i64.wrap (p2_1 + 1)))))) else (some p2_0))
end
def s_l06Ok (a0 : Core) : Option (Bool) :=
  (Option.bind (s_l06Nodes fuel a0 80 400) fun v2001 => (some (decide (0 < v2001))))
def s_l01Operators  : Option ((List ByteArray)) :=
  (some [(ByteArray.mk #[43]), (ByteArray.mk #[45]), (ByteArray.mk #[42]), (ByteArray.mk #[47]), (ByteArray.mk #[60]), (ByteArray.mk #[61])])
def s_OperatorText (a0 : Int) : Option (ByteArray) :=
  (Option.bind (s_l00In a0 1 6) fun v2001 => (if (!v2001) = true then (some (ByteArray.mk #[])) else (Option.bind s_l01Operators fun v4000 => (Option.bind (at? v4000 (IntKind.i64.wrap (a0 - 1))) fun v4003 => (some v4003)))))
mutual
def s_l06List_l3 : Nat → (List Int) → ByteArray → Int → Option (ByteArray)
  | 0, _, _, _ => none
  | n + 1, a0, p0_0, p0_1 => (if (decide (p0_1 < ((List.length a0 : Nat) : Int))) = true then (if (decide (0 < p0_1)) = true then (Option.bind (sapp? p0_0 (ByteArray.mk #[32])) fun v7001 => (s_l06List_j4 n a0 p0_1 v7001)) else (s_l06List_j4 n a0 p0_1 p0_0)) else (some p0_0))
def s_l06List_j4 : Nat → (List Int) → Int → ByteArray → Option (ByteArray)
  | 0, _, _, _ => none
  | n + 1, a0, p0_1, p1_0 => (Option.bind (at? a0 p0_1) fun v8003 => (Option.bind (s_Decimal v8003) fun v8005 => (Option.bind (sapp? p1_0 v8005) fun v8006 => (s_l06List_l3 n a0 v8006 (IntKind.i64.wrap (p0_1 + 1))))))
end
def s_l06List (a0 : List Int) : Option (ByteArray) :=
  (s_l06List_l3 fuel a0 (ByteArray.mk #[]) 0)
mutual
def s_l06Text : Nat → Core → Option (ByteArray)
  | 0, _ => none
  | n + 1, a0 => (if (decide (a0.kind = 1)) = true then (Option.bind (s_Decimal a0.value) fun v4004 => (Option.bind (sapp? (ByteArray.mk #[35]) v4004) fun v4005 => (some v4005))) else (if (decide (a0.kind = 2)) = true then (Option.bind (s_Decimal a0.value) fun v6004 => (some v6004)) else (if (decide (a0.kind = 3)) = true then (Option.bind (at? a0.kids 0) fun v8004 => (Option.bind (s_l06Text n v8004) fun v8005 => (Option.bind (sapp? (ByteArray.mk #[40]) v8005) fun v8006 => (Option.bind (sapp? v8006 (ByteArray.mk #[32])) fun v8007 => (Option.bind (s_OperatorText a0.value) fun v8012 => (Option.bind (sapp? v8007 v8012) fun v8013 => (Option.bind (sapp? v8013 (ByteArray.mk #[32])) fun v8014 => (Option.bind (at? a0.kids 1) fun v8019 => (Option.bind (s_l06Text n v8019) fun v8020 => (Option.bind (sapp? v8014 v8020) fun v8021 => (Option.bind (sapp? v8021 (ByteArray.mk #[41])) fun v8022 => (some v8022)))))))))))) else (if (decide (a0.kind = 4)) = true then (Option.bind (at? a0.kids 0) fun v10004 => (Option.bind (s_l06Text n v10004) fun v10005 => (Option.bind (sapp? (ByteArray.mk #[94]) v10005) fun v10006 => (some v10006)))) else (if (decide (a0.kind = 5)) = true then (Option.bind (at? a0.kids 0) fun v12004 => (Option.bind (s_l06Text n v12004) fun v12005 => (Option.bind (sapp? (ByteArray.mk #[40]) v12005) fun v12006 => (Option.bind (sapp? v12006 (ByteArray.mk #[32])) fun v12007 => (Option.bind (at? a0.kids 1) fun v12012 => (Option.bind (s_l06Text n v12012) fun v12013 => (Option.bind (sapp? v12007 v12013) fun v12014 => (Option.bind (sapp? v12014 (ByteArray.mk #[41])) fun v12015 => (some v12015))))))))) else (if (decide (a0.kind = 6)) = true then (Option.bind (at? a0.kids 0) fun v14004 => (Option.bind (s_l06Text n v14004) fun v14005 => (Option.bind (sapp? (ByteArray.mk #[33]) v14005) fun v14006 => (some v14006)))) else (if (decide (a0.kind = 7)) = true then (Option.bind (at? a0.kids 0) fun v16004 => (Option.bind (s_l06Text n v16004) fun v16005 => (Option.bind (sapp? (ByteArray.mk #[40, 108, 101, 116, 32]) v16005) fun v16006 => (Option.bind (sapp? v16006 (ByteArray.mk #[32, 105, 110, 32])) fun v16007 => (Option.bind (at? a0.kids 1) fun v16012 => (Option.bind (s_l06Text n v16012) fun v16013 => (Option.bind (sapp? v16007 v16013) fun v16014 => (Option.bind (sapp? v16014 (ByteArray.mk #[41])) fun v16015 => (some v16015))))))))) else (if (decide (a0.kind = 9)) = true then (Option.bind (s_l06List a0.data) fun v18004 => (Option.bind (sapp? (ByteArray.mk #[91]) v18004) fun v18005 => (Option.bind (sapp? v18005 (ByteArray.mk #[58])) fun v18006 => (Option.bind (at? a0.kids 0) fun v18011 => (Option.bind (s_l06Text n v18011) fun v18012 => (Option.bind (sapp? v18006 v18012) fun v18013 => (Option.bind (sapp? v18013 (ByteArray.mk #[93])) fun v18014 => (some v18014)))))))) else (if (decide (a0.kind = 10)) = true then (Option.bind (s_l06List a0.data) fun v20004 => (Option.bind (sapp? (ByteArray.mk #[123]) v20004) fun v20005 => (Option.bind (sapp? v20005 (ByteArray.mk #[58])) fun v20006 => (Option.bind (at? a0.kids 0) fun v20011 => (Option.bind (s_l06Text n v20011) fun v20012 => (Option.bind (sapp? v20006 v20012) fun v20013 => (Option.bind (sapp? v20013 (ByteArray.mk #[125])) fun v20014 => (some v20014)))))))) else (if (decide (a0.kind = 11)) = true then (Option.bind (s_Decimal a0.value) fun v22004 => (Option.bind (sapp? (ByteArray.mk #[64]) v22004) fun v22005 => (some v22005))) else (Option.bind (s_Decimal a0.value) fun v23004 => (Option.bind (sapp? (ByteArray.mk #[60]) v23004) fun v23005 => (s_l06Text_l1 n a0 v23005 0)))))))))))))
def s_l06Text_l1 : Nat → Core → ByteArray → Int → Option (ByteArray)
  | 0, _, _, _ => none
  | n + 1, a0, p0_0, p0_1 => (if (decide (p0_1 < ((List.length a0.kids : Nat) : Int))) = true then (Option.bind (at? a0.kids p0_1) fun v27006 => (Option.bind (s_l06Text n v27006) fun v27007 => (Option.bind (sapp? (ByteArray.mk #[32]) v27007) fun v27008 => (Option.bind (sapp? p0_0 v27008) fun v27009 => (s_l06Text_l1 n a0 v27009 (IntKind.i64.wrap (p0_1 + 1))))))) else (Option.bind (sapp? p0_0 (ByteArray.mk #[62])) fun v28001 => (some v28001)))
end
def s_CoreText (a0 : Core) : Option (ByteArray) :=
  (Option.bind (s_l06Ok a0) fun v2000 => (if (!v2000) = true then (some (ByteArray.mk #[])) else (Option.bind (s_l06Text fuel a0) fun v4000 => (some v4000))))
end Go.Proofs.YtlmanchbpommaaaDoor.Ab
