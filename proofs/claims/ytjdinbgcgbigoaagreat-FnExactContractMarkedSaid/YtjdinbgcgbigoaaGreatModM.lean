/-
  Models of the functions. Printed by wip/ab/gen.py.
-/
import Derived.Test.YtjdinbgcgbigoaaGreatMTyM
import Derived.Test.YtjdinbgcgbigoaaGreatModD
namespace Go.Proofs.YtjdinbgcgbigoaaGreat.Ab
set_option linter.unusedVariables false
set_option linter.unusedSimpArgs false
set_option maxRecDepth 20000
set_option maxHeartbeats 4000000
open Go.RowKit
mutual
def s_l18Redexes : Nat → Core → Int → (List Int) → Option ((List Int) × Int)
 | 0,_,_,_ => none
 | n + 1,a0,a1,a2 => (Option.bind (s_l08Kind a0) fun v2001 => (if (!decide (v2001 = 0)) = true then (Option.bind (app? a2 [a1]) fun v3005 => (s_l18Redexes_j1 n a0 a1 v3005)) else (s_l18Redexes_j1 n a0 a1 a2)))
def s_l18Redexes_j1 : Nat → Core → Int → (List Int) → Option ((List Int) × Int)
 | 0,_,_,_ => none
 | n + 1,a0,a1,p0_0 => (s_l18Redexes_l3 n a0 (IntKind.i64.wrap (a1 + 1)) p0_0 0)
def s_l18Redexes_l3 : Nat → Core → Int → (List Int) → Int → Option ((List Int) × Int)
 | 0,_,_,_,_ => none
 | n + 1,a0,p2_0,p2_1,p2_2 => (if (decide (p2_2 < ((List.length a0.kids : Nat) : Int))) = true then (Option.bind (at? a0.kids p2_2) fun v8005 => (Option.bind (s_l18Redexes n v8005 p2_0 p2_1) fun v8008 => (s_l18Redexes_l3 n a0 v8008.2 v8008.1 (IntKind.i64.wrap (p2_2 + 1))))) else (some (p2_1,p2_0)))
end
def s_l00Has_l1 : Nat → (List Int) → Int → Int → Option (Bool)
 | 0,_,_,_ => none
 | n + 1,a0,a1,p0_0 => (if (decide (p0_0 < ((List.length a0 : Nat) : Int))) = true then (Option.bind (at? a0 p0_0) fun v5002 => (if (decide (v5002 = a1)) = true then (some true) else (s_l00Has_l1 n a0 a1 (IntKind.i64.wrap (p0_0 + 1))))) else (some false))
def s_l00Has (a0 : List Int) (a1 : Int) : Option (Bool) :=
 (s_l00Has_l1 fuel a0 a1 0)
def s_l18Contract_j6 (p2_0 : Int) (p3_0 : Int) (p3_1 : Int) (p3_2 : List Int) (p3_3 : List Core) (p5_0 : Int) : Option (Core × Int × Int) :=
 (some ((⟨p3_0,p3_1,p3_2,p3_3⟩ : Core),p5_0,p2_0))
def s_l18Contract_j5 (p2_0 : Int) (p3_0 : Int) (p3_1 : Int) (p3_2 : List Int) (p3_3 : List Core) (p3_4 : Int) (p4_0 : Bool) : Option (Core × Int × Int) :=
 (if p4_0 = true then (s_l18Contract_j6 p2_0 p3_0 p3_1 p3_2 p3_3 4) else (s_l18Contract_j6 p2_0 p3_0 p3_1 p3_2 p3_3 p3_4))
def s_l18Contract_j4 (p2_0 : Int) (p3_0 : Int) (p3_1 : Int) (p3_2 : List Int) (p3_3 : List Core) (p3_4 : Int) : Option (Core × Int × Int) :=
 (if (decide (p3_4 = 0)) = true then (Option.bind (s_l08Fits (⟨p3_0,p3_1,p3_2,p3_3⟩ : Core)) fun v25003 => (s_l18Contract_j5 p2_0 p3_0 p3_1 p3_2 p3_3 p3_4 (!v25003))) else (s_l18Contract_j5 p2_0 p3_0 p3_1 p3_2 p3_3 p3_4 false))
mutual
def s_l18Contract : Nat → Book → Core → Int → (List Int) → Option (Core × Int × Int)
 | 0,_,_,_,_ => none
 | n + 1,a0,a1,a2,a3 => (Option.bind (s_l00Has a3 a2) fun v3004 => (if v3004 = true then (Option.bind (s_l08Kind a1) fun v4001 => (s_l18Contract_j1 n a0 a1 a2 a3 v4001)) else (s_l18Contract_j1 n a0 a1 a2 a3 0)))
def s_l18Contract_j1 : Nat → Book → Core → Int → (List Int) → Int → Option (Core × Int × Int)
 | 0,_,_,_,_,_ => none
 | n + 1,a0,a1,a2,a3,p0_0 => (s_l18Contract_l3 n a0 a1 a3 p0_0 (IntKind.i64.wrap (a2 + 1)) [] 0)
def s_l18Contract_l3 : Nat → Book → Core → (List Int) → Int → Int → (List Core) → Int → Option (Core × Int × Int)
 | 0,_,_,_,_,_,_,_ => none
 | n + 1,a0,a1,a3,p0_0,p2_0,p2_1,p2_2 => (if (decide (p2_2 < ((List.length a1.kids : Nat) : Int))) = true then (Option.bind (at? a1.kids p2_2) fun v10006 => (Option.bind (s_l18Contract n a0 v10006 p2_0 a3) fun v10009 => (if (!decide (v10009.2.1 = 0)) = true then (some ((⟨0,0,[],[]⟩ : Core),v10009.2.1,v10009.2.2)) else (Option.bind (app? p2_1 [v10009.1]) fun v13003 => (s_l18Contract_l3 n a0 a1 a3 p0_0 v10009.2.2 v13003 (IntKind.i64.wrap (p2_2 + 1))))))) else (if (decide (p0_0 = 1)) = true then (Option.bind (at? p2_1 0) fun v18001 => (Option.bind (at? v18001.kids 0) fun v18004 => (Option.bind (at? p2_1 1) fun v18006 => (Option.bind (s_l06Instance v18004 v18006) fun v18007 => (s_l18Contract_j4 p2_0 v18007.1.kind v18007.1.value v18007.1.data v18007.1.kids v18007.2))))) else (if (decide (p0_0 = 2)) = true then (Option.bind (at? a1.kids 0) fun v20008 => (Option.bind (at? a1.kids 1) fun v20015 => (Option.bind (s_Operate a1.value v20008.value v20015.value) fun v20018 => (Option.bind (s_l06N v20018) fun v20019 => (s_l18Contract_j4 p2_0 v20019.kind v20019.value v20019.data v20019.kids 0))))) else (if (decide (p0_0 = 3)) = true then (Option.bind (at? p2_1 0) fun v22002 => (Option.bind (s_l08Chosen a1 v22002.kids) fun v22005 => (s_l18Contract_j4 p2_0 v22005.kind v22005.value v22005.data v22005.kids 0))) else (if (decide (p0_0 = 4)) = true then (Option.bind (s_l08Expand a0 a1 p2_1) fun v24003 => (s_l18Contract_j4 p2_0 v24003.kind v24003.value v24003.data v24003.kids 0)) else (s_l18Contract_j4 p2_0 a1.kind a1.value a1.data p2_1 0))))))
end
mutual
def s_l18Marked_l7 : Nat → Book → Core → (List Int) → ((List Int) × Int) → Int → Option (Core × Int)
 | 0,_,_,_,_,_ => none
 | n + 1,a0,a1,a2,v5001,p2_0 => (if (decide (p2_0 < ((List.length a2 : Nat) : Int))) = true then (if (decide (0 < p2_0)) = true then (Option.bind (at? a2 (IntKind.i64.wrap (p2_0 - 1))) fun v9006 => (Option.bind (at? a2 p2_0) fun v9010 => (if (decide (v9010 ≤ v9006)) = true then (s_l18Marked_j8 n a0 a1 a2 p2_0 v5001 true) else (Option.bind (at? a2 p2_0) fun v9018 => (Option.bind (s_l00Has v5001.1 v9018) fun v9020 => (s_l18Marked_j8 n a0 a1 a2 p2_0 v5001 (!v9020))))))) else (Option.bind (at? a2 p2_0) fun v9018 => (Option.bind (s_l00Has v5001.1 v9018) fun v9020 => (s_l18Marked_j8 n a0 a1 a2 p2_0 v5001 (!v9020))))) else (Option.bind (s_l18Contract fuel a0 a1 0 a2) fun v12003 => (if (!decide (v12003.2.1 = 0)) = true then (some ((⟨0,0,[],[]⟩ : Core),v12003.2.1)) else (Option.bind (s_l06Own v12003.1) fun v15000 => (some (v15000,0))))))
def s_l18Marked_j8 : Nat → Book → Core → (List Int) → Int → ((List Int) × Int) → Bool → Option (Core × Int)
 | 0,_,_,_,_,_,_ => none
 | n + 1,a0,a1,a2,p2_0,v5001,p3_0 => (if p3_0 = true then (some ((⟨0,0,[],[]⟩ : Core),2)) else (s_l18Marked_l7 n a0 a1 a2 v5001 (IntKind.i64.wrap (p2_0 + 1))))
end
def s_l18Marked (a0 : Book) (a1 : Core) (a2 : List Int) : Option (Core × Int) :=
 (Option.bind (s_l08State a0 a1) fun v2002 => (if (!v2002) = true then (some ((⟨0,0,[],[]⟩ : Core),1)) else (Option.bind (s_l18Redexes fuel a1 0 []) fun v5001 => (s_l18Marked_l7 fuel a0 a1 a2 v5001 0))))
def s_ContractMarked (a0 : Book) (a1 : Core) (a2 : List Int) : Option (Core × Int) :=
 (Option.bind (s_l18Marked a0 a1 a2) fun v2001 => (some (v2001.1,v2001.2)))
mutual
def i_redexPositions : Nat → Core → Int → (List Int) → Option ((List Int) × Int)
 | 0,_,_,_ => none
 | n + 1,a0,a1,a2 => (Option.bind (i_redexKind a0) fun v2001 => (if (!decide (v2001 = 0)) = true then (Option.bind (app? a2 [a1]) fun v3005 => (i_redexPositions_j1 n a0 a1 v3005)) else (i_redexPositions_j1 n a0 a1 a2)))
def i_redexPositions_j1 : Nat → Core → Int → (List Int) → Option ((List Int) × Int)
 | 0,_,_,_ => none
 | n + 1,a0,a1,p0_0 => (i_redexPositions_l3 n a0 (IntKind.i64.wrap (a1 + 1)) p0_0 0)
def i_redexPositions_l3 : Nat → Core → Int → (List Int) → Int → Option ((List Int) × Int)
 | 0,_,_,_,_ => none
 | n + 1,a0,p2_0,p2_1,p2_2 => (if (decide (p2_2 < ((List.length a0.kids : Nat) : Int))) = true then (Option.bind (at? a0.kids p2_2) fun v7000 => (Option.bind (i_redexPositions n v7000 p2_0 p2_1) fun v8003 => (i_redexPositions_l3 n a0 v8003.2 v8003.1 (IntKind.i64.wrap (p2_2 + 1))))) else (some (p2_1,p2_0)))
end
def i_isIncreasing_l1 : Nat → (List Int) → Int → Option (Bool)
 | 0,_,_ => none
 | n + 1,a0,p0_0 => (if (decide (p0_0 < ((List.length a0 : Nat) : Int))) = true then (Option.bind (at? a0 (IntKind.i64.wrap (p0_0 - 1))) fun v5003 => (Option.bind (at? a0 p0_0) fun v5007 => (if (decide (v5007 ≤ v5003)) = true then (some false) else (i_isIncreasing_l1 n a0 (IntKind.i64.wrap (p0_0 + 1)))))) else (some true))
def i_isIncreasing (a0 : List Int) : Option (Bool) :=
 (i_isIncreasing_l1 fuel a0 1)
def g_Index_sint64_l1 : Nat → (List Int) → Int → Int → Option (Int)
 | 0,_,_,_ => none
 | n + 1,a0,a1,p0_0 => (if (decide (p0_0 < ((List.length a0 : Nat) : Int))) = true then (Option.bind (at? a0 p0_0) fun v5003 => (if (decide (a1 = v5003)) = true then (some p0_0) else (g_Index_sint64_l1 n a0 a1 (IntKind.i64.wrap (p0_0 + 1))))) else (some (-1)))
def g_Index_sint64 (a0 : List Int) (a1 : Int) : Option (Int) :=
 (g_Index_sint64_l1 fuel a0 a1 0)
def g_Contains_sint64 (a0 : List Int) (a1 : Int) : Option (Bool) :=
 (Option.bind (g_Index_sint64 a0 a1) fun v2002 => (some (decide (0 ≤ v2002))))
def i_ContractMarked_1 (a0 : Int) (a1 : List Int) : Option (Bool) :=
 (Option.bind (g_Contains_sint64 a1 a0) fun v2002 => (some (!v2002)))
def i_marker_contract_j3 (a0 : Marker) (p1_0 : Int) (p2_0 : Int) (p2_1 : Int) (p2_2 : List Int) (p2_3 : List Core) : Option (Core × Bool × Marker) :=
 (Option.bind (i_coreFits (⟨p2_0,p2_1,p2_2,p2_3⟩ : Core)) fun v15002 => (some ((⟨p2_0,p2_1,p2_2,p2_3⟩ : Core),v15002,(⟨a0.b,a0.marks,p1_0⟩ : Marker))))
mutual
def i_marker_contract : Nat → Marker → Core → Option (Core × Bool × Marker)
 | 0,_,_ => none
 | n + 1,a0,a1 => (Option.bind (g_Contains_sint64 a0.marks a0.att) fun v2008 => (Option.bind (g_Clone_sint64 a1.data) fun v4006 => (i_marker_contract_l2 n a0 a1 v2008 v4006 (IntKind.i64.wrap (a0.att + 1)) [] 0)))
def i_marker_contract_l2 : Nat → Marker → Core → Bool → (List Int) → Int → (List Core) → Int → Option (Core × Bool × Marker)
 | 0,_,_,_,_,_,_,_ => none
 | n + 1,a0,a1,v2008,v4006,p1_0,p1_1,p1_2 => (if (decide (p1_2 < ((List.length a1.kids : Nat) : Int))) = true then (Option.bind (at? a1.kids p1_2) fun v7000 => (Option.bind (i_marker_contract n (⟨a0.b,a0.marks,p1_0⟩ : Marker) v7000) fun v8002 => (if (!v8002.2.1) = true then (some ((⟨0,0,[],[]⟩ : Core),false,(⟨a0.b,a0.marks,v8002.2.2.att⟩ : Marker))) else (Option.bind (app? p1_1 [v8002.1]) fun v11004 => (i_marker_contract_l2 n a0 a1 v2008 v4006 v8002.2.2.att v11004 (IntKind.i64.wrap (p1_2 + 1))))))) else (if v2008 = true then (Option.bind (i_redexKind a1) fun v14005 => (Option.bind (i_contract a0.b v14005 (⟨a1.kind,a1.value,v4006,p1_1⟩ : Core)) fun v14007 => (i_marker_contract_j3 a0 p1_0 v14007.kind v14007.value v14007.data v14007.kids))) else (i_marker_contract_j3 a0 p1_0 a1.kind a1.value v4006 p1_1)))
end
def i_ContractMarked_j1 (a0 : Book) (a1 : Core) (a2 : List Int) (p0_0 : Bool) : Option (Core × Int) :=
 (if p0_0 = true then (some ((⟨0,0,[],[]⟩ : Core),2)) else (Option.bind (i_marker_contract fuel (⟨a0,a2,0⟩ : Marker) a1) fun v8005 => (if (!v8005.2.1) = true then (some ((⟨0,0,[],[]⟩ : Core),4)) else (Option.bind (i_copyCore fuel v8005.1) fun v11001 => (some (v11001,0))))))
def i_ContractMarked (a0 : Book) (a1 : Core) (a2 : List Int) : Option (Core × Int) :=
 (Option.bind (i_isMachineState a0 a1) fun v2002 => (if (!v2002) = true then (some ((⟨0,0,[],[]⟩ : Core),1)) else (Option.bind (i_redexPositions fuel a1 0 []) fun v5001 => (Option.bind (i_isIncreasing a2) fun v6001 => (if (!v6001) = true then (i_ContractMarked_j1 a0 a1 a2 true) else (Option.bind (g_ContainsFunc_sint64 a2 (fun y0 => i_ContractMarked_1 y0 v5001.1)) fun v6006 => (i_ContractMarked_j1 a0 a1 a2 v6006)))))))
def l_FnExactContractMarked_j3 (v15003 : Core × Int) (v31002 : Int × (List Int) × (List Core)) (p2_0 : Bool) : Option (Bool) :=
 (if p2_0 = true then (some false) else (Option.bind (l_heldCore (⟨v15003.1.kind,v15003.1.value,v31002.2.1,v31002.2.2⟩ : Core) 1) fun v42002 => (if (decide (v42002 < 0)) = true then (some false) else (if (!decide (v42002 = v31002.1)) = true then (some false) else (some true)))))
def l_FnExactContractMarked_j2 (a0 : Book) (a1 : Core) (a2 : List Int) (v11006 : Core × Int) (v15003 : Core × Int) (p1_0 : Bool) : Option (Bool) :=
 (if p1_0 = true then (some false) else (Option.bind (l_markCore v15003.1 1) fun v31002 => (Option.bind (l_heldCore (⟨v15003.1.kind,v15003.1.value,v31002.2.1,v31002.2.2⟩ : Core) 1) fun v33002 => (if (decide (v33002 < 0)) = true then (some false) else (if (!decide (v33002 = v31002.1)) = true then (some false) else (Option.bind (l_toBook a0) fun v38001 => (Option.bind (l_toCore fuel a1) fun v38003 => (Option.bind (l_toInt64S a2) fun v38005 => (Option.bind (i_ContractMarked v38001 v38003 v38005) fun v38006 => (Option.bind (l_eqCore fuel v38006.1 v11006.1) fun v39002 => (if (!v39002) = true then (l_FnExactContractMarked_j3 v15003 v31002 true) else (l_FnExactContractMarked_j3 v15003 v31002 (!decide (v38006.2 = v11006.2))))))))))))))
def l_FnExactContractMarked_j1 (a0 : Book) (a1 : Core) (a2 : List Int) (v11006 : Core × Int) (v12001 : Book) (v13001 : Core) (v14001 : (List Int)) (v15003 : Core × Int) (p0_0 : Bool) : Option (Bool) :=
 (if p0_0 = true then (some false) else (Option.bind (l_toBook a0) fun v18002 => (Option.bind (l_eqBook v12001 v18002) fun v18003 => (if (!v18003) = true then (some false) else (Option.bind (l_toCore fuel a1) fun v20002 => (Option.bind (l_eqCore fuel v13001 v20002) fun v20003 => (if (!v20003) = true then (some false) else (Option.bind (l_toInt64S a2) fun v22002 => (Option.bind (l_eqInt64S v14001 v22002) fun v22003 => (if (!v22003) = true then (some false) else (Option.bind (l_markBook v12001 1) fun v25002 => (Option.bind (l_markCore v13001 v25002.1) fun v26002 => (Option.bind (l_markInt64S v14001 v26002.1) fun v27002 => (if (decide (v27002.1 < 0)) = true then (l_FnExactContractMarked_j2 a0 a1 a2 v11006 v15003 true) else (Option.bind (l_eqCore fuel v15003.1 v11006.1) fun v28005 => (if (!v28005) = true then (l_FnExactContractMarked_j2 a0 a1 a2 v11006 v15003 true) else (l_FnExactContractMarked_j2 a0 a1 a2 v11006 v15003 (!decide (v15003.2 = v11006.2)))))))))))))))))))
def l_FnExactContractMarked (a0 : Book) (a1 : Core) (a2 : List Int) : Option (Bool) :=
 (if (decide (1048576 < ((List.length a2 : Nat) : Int))) = true then (some true) else (Option.bind (l_szBook a0 1048576) fun v5002 => (if (decide (v5002 < 0)) = true then (some true) else (Option.bind (l_szCore fuel a1 v5002) fun v8002 => (if (decide (v8002 < 0)) = true then (some true) else (Option.bind (l_toBook a0) fun v11001 => (Option.bind (l_toCore fuel a1) fun v11003 => (Option.bind (l_toInt64S a2) fun v11005 => (Option.bind (s_ContractMarked v11001 v11003 v11005) fun v11006 => (Option.bind (l_toBook a0) fun v12001 => (Option.bind (l_toCore fuel a1) fun v13001 => (Option.bind (l_toInt64S a2) fun v14001 => (Option.bind (i_ContractMarked v12001 v13001 v14001) fun v15003 => (Option.bind (l_eqCore fuel v15003.1 v11006.1) fun v16002 => (if (!v16002) = true then (l_FnExactContractMarked_j1 a0 a1 a2 v11006 v12001 v13001 v14001 v15003 true) else (l_FnExactContractMarked_j1 a0 a1 a2 v11006 v12001 v13001 v14001 v15003 (!decide (v15003.2 = v11006.2))))))))))))))))))
end Go.Proofs.YtjdinbgcgbigoaaGreat.Ab
