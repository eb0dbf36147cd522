/-
  Models of the functions. Printed by wip/ab/gen.py.
-/
import Derived.Test.YtjdinbgcgbigoaaGreatModE
namespace Go.Proofs.YtjdinbgcgbigoaaGreat.Ab
set_option linter.unusedVariables false
set_option linter.unusedSimpArgs false
set_option maxRecDepth 20000
set_option maxHeartbeats 4000000
open Go.RowKit
def l_markBook (a0 : Book) (a1 : Int) : Option (Int × (List Core)) :=
 (Option.bind (l_markCoreS fuel a0.defs a1) fun v2003 => (some (v2003.1,v2003.2)))
mutual
def s_l06Erased : Nat → Core → Option (Bool)
 | 0,_ => none
 | n + 1,a0 => (if (decide (a0.kind = 6)) = true then (s_l06Erased_j1 n a0 true) else (s_l06Erased_j1 n a0 (decide (a0.kind = 7))))
def s_l06Erased_j1 : Nat → Core → Bool → Option (Bool)
 | 0,_,_ => none
 | n + 1,a0,p0_0 => (if p0_0 = true then (some false) else (s_l06Erased_l2 n a0 0))
def s_l06Erased_l2 : Nat → Core → Int → Option (Bool)
 | 0,_,_ => none
 | n + 1,a0,p1_0 => (if (decide (p1_0 < ((List.length a0.kids : Nat) : Int))) = true then (Option.bind (at? a0.kids p1_0) fun v7005 => (Option.bind (s_l06Erased n v7005) fun v7006 => (if (!v7006) = true then (some false) else (s_l06Erased_l2 n a0 (IntKind.i64.wrap (p1_0 + 1)))))) else (some true))
end
def s_l08State_l2 : Nat → Book → Int → Option (Bool)
 | 0,_,_ => none
 | n + 1,a0,p1_0 => (if (decide (p1_0 < ((List.length a0.defs : Nat) : Int))) = true then (Option.bind (at? a0.defs p1_0) fun v7005 => (Option.bind (s_l06Erased fuel v7005) fun v7006 => (if (!v7006) = true then (some false) else (s_l08State_l2 n a0 (IntKind.i64.wrap (p1_0 + 1)))))) else (some true))
def s_l08State_j1 (a0 : Book) (p0_0 : Bool) : Option (Bool) :=
 (if p0_0 = true then (some false) else (s_l08State_l2 fuel a0 0))
def s_l08State (a0 : Book) (a1 : Core) : Option (Bool) :=
 (Option.bind (s_l06Book a0) fun v2001 => (if (!v2001) = true then (s_l08State_j1 a0 true) else (Option.bind (s_l06Closed a1) fun v2005 => (if (!v2005) = true then (s_l08State_j1 a0 true) else (Option.bind (s_l06Erased fuel a1) fun v2010 => (if (!v2010) = true then (s_l08State_j1 a0 true) else (Option.bind (s_l06Refs fuel a1 ((List.length a0.defs : Nat) : Int)) fun v2020 => (s_l08State_j1 a0 (!v2020)))))))))
def s_l08Kind_j1 (a0 : Core) (p0_0 : Bool) : Option (Int) :=
 (if p0_0 = true then (some 3) else (Option.bind (at? a0.kids 0) fun v21004 => (if (decide (v21004.kind = 11)) = true then (some 4) else (some 0))))
def s_l08Kind (a0 : Core) : Option (Int) :=
 (if (decide (a0.kind = 5)) = true then (Option.bind (at? a0.kids 0) fun v4004 => (if (decide (v4004.kind = 4)) = true then (some 1) else (if (decide (v4004.kind = 11)) = true then (some 4) else (some 0)))) else (if (decide (a0.kind = 3)) = true then (Option.bind (at? a0.kids 0) fun v10004 => (if (decide (v10004.kind = 11)) = true then (some 4) else (Option.bind (at? a0.kids 0) fun v12004 => (if (decide (v12004.kind = 2)) = true then (Option.bind (at? a0.kids 1) fun v13004 => (if (decide (v13004.kind = 2)) = true then (some 2) else (if (decide (v13004.kind = 11)) = true then (some 4) else (some 0)))) else (some 0))))) else (if (decide (a0.kind = 9)) = true then (Option.bind (at? a0.kids 0) fun v19004 => (if (decide (v19004.kind = 8)) = true then (Option.bind (at? a0.kids 0) fun v19013 => (s_l08Kind_j1 a0 (decide (v19013.value < ((List.length a0.data : Nat) : Int))))) else (s_l08Kind_j1 a0 false))) else (if (decide (a0.kind = 10)) = true then (Option.bind (at? a0.kids 0) fun v24004 => (if (decide (v24004.kind = 2)) = true then (some 3) else (if (decide (v24004.kind = 11)) = true then (some 4) else (some 0)))) else (some 0)))))
def s_l06N (a0 : Int) : Option (Core) :=
 (some (⟨2,a0,[],[]⟩ : Core))
def s_Wrap32 (a0 : Int) : Option (Int) :=
 (some (IntKind.i64.wrap (IntKind.i32.wrap (IntKind.u32.wrap (IntKind.u64.wrap a0)))))
def s_l01Bool (a0 : Bool) : Option (Int) :=
 (if a0 = true then (some 1) else (some 0))
def s_Operate (a0 : Int) (a1 : Int) (a2 : Int) : Option (Int) :=
 (Option.bind (s_Wrap32 a1) fun v2001 => (Option.bind (s_Wrap32 a2) fun v3001 => (if (decide (a0 = 1)) = true then (Option.bind (s_Wrap32 (IntKind.i64.wrap (v2001 + v3001))) fun v6003 => (some v6003)) else (if (decide (a0 = 2)) = true then (Option.bind (s_Wrap32 (IntKind.i64.wrap (v2001 - v3001))) fun v8003 => (some v8003)) else (if (decide (a0 = 3)) = true then (Option.bind (s_Wrap32 (IntKind.i64.wrap (v2001 * v3001))) fun v10003 => (some v10003)) else (if (decide (a0 = 4)) = true then (if (decide (v3001 = 0)) = true then (some 0) else (Option.bind (nz? v3001) fun v14002 => (Option.bind (s_Wrap32 (IntKind.i64.wrap (Int.tdiv v2001 v3001))) fun v14003 => (some v14003)))) else (if (decide (a0 = 5)) = true then (Option.bind (s_l01Bool (decide (v2001 < v3001))) fun v16003 => (some v16003)) else (if (decide (a0 = 6)) = true then (Option.bind (s_l01Bool (decide (v2001 = v3001))) fun v18003 => (some v18003)) else (some 0)))))))))
def s_l06R (a0 : Int) : Option (Core) :=
 (some (⟨11,a0,[],[]⟩ : Core))
def s_l06C (a0 : Int) (a1 : Int) (a2 : List Core) : Option (Core) :=
 (some (⟨a0,a1,[],a2⟩ : Core))
def s_l06A (a0 : Core) (a1 : Core) : Option (Core) :=
 (Option.bind (s_l06C 5 0 [a0,a1]) fun v2003 => (some v2003))
def s_l08Chosen_l2 : Nat → (List Core) → Int → Int → (List Int) → (List Core) → Int → Option (Core)
 | 0,_,_,_,_,_,_ => none
 | n + 1,a1,p1_0,p1_1,p1_2,p1_3,p1_4 => (if (decide (p1_4 < ((List.length a1 : Nat) : Int))) = true then (Option.bind (at? a1 p1_4) fun v10003 => (Option.bind (s_l06A (⟨p1_0,p1_1,p1_2,p1_3⟩ : Core) v10003) fun v10005 => (s_l08Chosen_l2 n a1 v10005.kind v10005.value v10005.data v10005.kids (IntKind.i64.wrap (p1_4 + 1))))) else (some (⟨p1_0,p1_1,p1_2,p1_3⟩ : Core)))
def s_l08Chosen (a0 : Core) (a1 : List Core) : Option (Core) :=
 (if (decide (a0.kind = 10)) = true then (Option.bind (at? a0.kids 0) fun v3004 => (if (!decide (v3004.value = 0)) = true then (Option.bind (at? a0.data 0) fun v4004 => (Option.bind (s_l06R v4004) fun v4006 => (some v4006))) else (Option.bind (at? a0.data 1) fun v5004 => (Option.bind (s_l06R v5004) fun v5006 => (some v5006))))) else (Option.bind (at? a0.kids 0) fun v6008 => (Option.bind (at? a0.data v6008.value) fun v6011 => (Option.bind (s_l06R v6011) fun v6013 => (s_l08Chosen_l2 fuel a1 v6013.kind v6013.value v6013.data v6013.kids 0)))))
def s_l08Expand_j1 (a0 : Book) (a1 : Core) (v2014 : List Core) (p0_0 : Int) : Option (Core) :=
 (Option.bind (at? a1.kids p0_0) fun v6012 => (Option.bind (at? a0.defs v6012.value) fun v6015 => (Option.bind (at? v2014 p0_0) fun v6017 => (Option.bind (set1? v2014 p0_0 v6015) fun v6018_2 => (some (⟨a1.kind,a1.value,a1.data,v6018_2⟩ : Core))))))
def s_l08Expand (a0 : Book) (a1 : Core) (a2 : List Core) : Option (Core) :=
 (Option.bind (app? [] a2) fun v2014 => (Option.bind (at? a1.kids 0) fun v4004 => (if (!decide (v4004.kind = 11)) = true then (s_l08Expand_j1 a0 a1 v2014 1) else (s_l08Expand_j1 a0 a1 v2014 0))))
def s_l08Develop_j6 (p2_0 : Int) (p3_0 : Int) (p3_1 : Int) (p3_2 : List Int) (p3_3 : List Core) (p5_0 : Int) : Option (Core × Int × Int) :=
 (some ((⟨p3_0,p3_1,p3_2,p3_3⟩ : Core),p5_0,p2_0))
def s_l08Develop_j5 (p2_0 : Int) (p3_0 : Int) (p3_1 : Int) (p3_2 : List Int) (p3_3 : List Core) (p3_4 : Int) (p4_0 : Bool) : Option (Core × Int × Int) :=
 (if p4_0 = true then (s_l08Develop_j6 p2_0 p3_0 p3_1 p3_2 p3_3 4) else (s_l08Develop_j6 p2_0 p3_0 p3_1 p3_2 p3_3 p3_4))
def s_l08Develop_j4 (p2_0 : Int) (p3_0 : Int) (p3_1 : Int) (p3_2 : List Int) (p3_3 : List Core) (p3_4 : Int) : Option (Core × Int × Int) :=
 (if (decide (p3_4 = 0)) = true then (Option.bind (s_l08Fits (⟨p3_0,p3_1,p3_2,p3_3⟩ : Core)) fun v24003 => (s_l08Develop_j5 p2_0 p3_0 p3_1 p3_2 p3_3 p3_4 (!v24003))) else (s_l08Develop_j5 p2_0 p3_0 p3_1 p3_2 p3_3 p3_4 false))
def s_l06Own (a0 : Core) : Option (Core) :=
 (Option.bind (s_l06Shift fuel a0 0 0) fun v2001 => (some v2001))
def i_IsErased_1 (a0 : Core) : Option (Bool) :=
 (if (decide (a0.kind = 6)) = true then (some true) else (some (decide (a0.kind = 7))))
def i_IsErased (a0 : Core) : Option (Bool) :=
 (Option.bind (i_ValidCore a0) fun v2001 => (if v2001 = true then (Option.bind (i_anyCore fuel a0 (fun y0 => i_IsErased_1 y0)) fun v2004 => (some (!v2004))) else (some false)))
def i_isErasedBook_1 (a0 : Core) : Option (Bool) :=
 (Option.bind (i_IsErased a0) fun v2001 => (some (!v2001)))
def i_isErasedBook (a0 : Book) : Option (Bool) :=
 (Option.bind (i_ValidBook a0) fun v2001 => (if v2001 = true then (Option.bind (g_ContainsFunc_simpl_Core a0.defs (fun y0 => i_isErasedBook_1 y0)) fun v2005 => (some (!v2005))) else (some false)))
def i_isErasedTerm (a0 : Book) (a1 : Core) : Option (Bool) :=
 (Option.bind (i_IsClosed a1) fun v2001 => (if v2001 = true then (Option.bind (i_IsErased a1) fun v2004 => (if v2004 = true then (Option.bind (i_namesOnly a1 ((List.length a0.defs : Nat) : Int)) fun v2011 => (some v2011)) else (some false))) else (some false)))
def i_isMachineState (a0 : Book) (a1 : Core) : Option (Bool) :=
 (Option.bind (i_isErasedBook a0) fun v2001 => (if v2001 = true then (Option.bind (i_isErasedTerm a0 a1) fun v2005 => (some v2005)) else (some false)))
def i_redexKind_j2 (p1_0 : Bool) : Option (Int) :=
 (if p1_0 = true then (some 4) else (some 0))
def i_redexKind_j1 (v4002 : Core) (v13002 : Core) (p0_0 : Bool) : Option (Int) :=
 (if p0_0 = true then (some 2) else (if (decide (v4002.kind = 11)) = true then (i_redexKind_j2 true) else (if (decide (v4002.kind = 2)) = true then (i_redexKind_j2 (decide (v13002.kind = 11))) else (i_redexKind_j2 false))))
def i_redexKind_j5 (p4_0 : Bool) : Option (Int) :=
 (if p4_0 = true then (some 3) else (some 0))
def i_redexKind_j4 (a0 : Core) (v4002 : Core) (p3_0 : Bool) : Option (Int) :=
 (if p3_0 = true then (i_redexKind_j5 p3_0) else (if (decide (a0.kind = 10)) = true then (i_redexKind_j5 (decide (v4002.kind = 2))) else (i_redexKind_j5 false)))
def i_redexKind_j3 (a0 : Core) (v4002 : Core) (p2_0 : Bool) : Option (Int) :=
 (if p2_0 = true then (if (decide (v4002.kind = 11)) = true then (some 4) else (if (decide (a0.kind = 9)) = true then (if (decide (v4002.kind = 8)) = true then (i_redexKind_j4 a0 v4002 (decide (v4002.value < ((List.length a0.data : Nat) : Int)))) else (i_redexKind_j4 a0 v4002 false)) else (i_redexKind_j4 a0 v4002 false))) else (some 0))
def i_redexKind (a0 : Core) : Option (Int) :=
 (if (decide (((List.length a0.kids : Nat) : Int) = 0)) = true then (some 0) else (Option.bind (at? a0.kids 0) fun v4002 => (if (decide (a0.kind = 5)) = true then (if (decide (v4002.kind = 4)) = true then (some 1) else (if (decide (v4002.kind = 11)) = true then (some 4) else (some 0))) else (if (decide (a0.kind = 3)) = true then (Option.bind (at? a0.kids 1) fun v13002 => (if (decide (v4002.kind = 2)) = true then (i_redexKind_j1 v4002 v13002 (decide (v13002.kind = 2))) else (i_redexKind_j1 v4002 v13002 false))) else (if (decide (a0.kind = 9)) = true then (i_redexKind_j3 a0 v4002 (decide (a0.kind = 9))) else (i_redexKind_j3 a0 v4002 (decide (a0.kind = 10))))))))
def i_coreNum (a0 : Int) : Option (Core) :=
 (some (⟨2,a0,[],[]⟩ : Core))
def i_Wrap32 (a0 : Int) : Option (Int) :=
 (some (IntKind.i64.wrap (IntKind.i32.wrap a0)))
def i_Operate (a0 : Int) (a1 : Int) (a2 : Int) : Option (Int) :=
 (Option.bind (i_Wrap32 a1) fun v2001 => (Option.bind (i_Wrap32 a2) fun v2003 => (if (decide (a0 = 1)) = true then (Option.bind (i_Wrap32 (IntKind.i64.wrap (v2001 + v2003))) fun v5003 => (some v5003)) else (if (decide (a0 = 2)) = true then (Option.bind (i_Wrap32 (IntKind.i64.wrap (v2001 - v2003))) fun v7003 => (some v7003)) else (if (decide (a0 = 3)) = true then (Option.bind (i_Wrap32 (IntKind.i64.wrap (v2001 * v2003))) fun v9003 => (some v9003)) else (if (decide (a0 = 4)) = true then (if (decide (v2003 = 0)) = true then (some 0) else (Option.bind (nz? v2003) fun v13002 => (Option.bind (i_Wrap32 (IntKind.i64.wrap (Int.tdiv v2001 v2003))) fun v13003 => (some v13003)))) else (if (decide (a0 = 5)) = true then (Option.bind (i_truth (decide (v2001 < v2003))) fun v15003 => (some v15003)) else (if (decide (a0 = 6)) = true then (Option.bind (i_truth (decide (v2001 = v2003))) fun v17003 => (some v17003)) else (some 0)))))))))
def i_coreRef (a0 : Int) : Option (Core) :=
 (some (⟨11,a0,[],[]⟩ : Core))
def i_coreApp (a0 : Core) (a1 : Core) : Option (Core) :=
 (some (⟨5,0,[],[a0,a1]⟩ : Core))
def i_chosen_l2 : Nat → (List Core) → Int → Int → (List Int) → (List Core) → Int → Option (Core)
 | 0,_,_,_,_,_,_ => none
 | n + 1,a1,p1_0,p1_1,p1_2,p1_3,p1_4 => (if (decide (p1_4 < ((List.length a1 : Nat) : Int))) = true then (Option.bind (at? a1 p1_4) fun v5000 => (Option.bind (i_coreApp (⟨p1_0,p1_1,p1_2,p1_3⟩ : Core) v5000) fun v6002 => (i_chosen_l2 n a1 v6002.kind v6002.value v6002.data v6002.kids (IntKind.i64.wrap (p1_4 + 1))))) else (some (⟨p1_0,p1_1,p1_2,p1_3⟩ : Core)))
def i_chosen (a0 : Int) (a1 : List Core) : Option (Core) :=
 (Option.bind (i_coreRef a0) fun v2001 => (i_chosen_l2 fuel a1 v2001.kind v2001.value v2001.data v2001.kids 0))
def g_Clone_simpl_Core (a0 : List Core) : Option ((List Core)) :=
 (Option.bind (app? [] a0) fun v4002 => (some v4002))
def i_contract (a0 : Book) (a1 : Int) (a2 : Core) : Option (Core) :=
 (if (decide (a1 = 1)) = true then (Option.bind (at? a2.kids 0) fun v4002 => (Option.bind (at? v4002.kids 0) fun v4005 => (Option.bind (at? a2.kids 1) fun v4009 => (Option.bind (i_instantiate v4005 v4009) fun v4011 => (some v4011))))) else (if (decide (a1 = 2)) = true then (Option.bind (at? a2.kids 0) fun v6004 => (Option.bind (at? a2.kids 1) fun v6009 => (Option.bind (i_Operate a2.value v6004.value v6009.value) fun v6012 => (Option.bind (i_coreNum v6012) fun v6013 => (some v6013))))) else (if (decide (a1 = 3)) = true then (if (decide (a2.kind = 9)) = true then (Option.bind (at? a2.kids 0) fun v9004 => (Option.bind (at? a2.data v9004.value) fun v9007 => (Option.bind (at? a2.kids 0) fun v9011 => (Option.bind (i_chosen v9007 v9011.kids) fun v9014 => (some v9014))))) else (Option.bind (at? a2.kids 0) fun v10004 => (Option.bind (i_truth (decide (v10004.value = 0))) fun v10008 => (Option.bind (at? a2.data v10008) fun v10009 => (Option.bind (i_coreRef v10009) fun v10011 => (some v10011)))))) else (Option.bind (g_Clone_simpl_Core a2.kids) fun v11008 => (Option.bind (at? a2.kids 0) fun v12002 => (Option.bind (i_truth (!decide (v12002.kind = 11))) fun v12006 => (Option.bind (at? a2.kids v12006) fun v13008 => (Option.bind (at? a0.defs v13008.value) fun v13011 => (Option.bind (at? v11008 v12006) fun v13013 => (Option.bind (set1? v11008 v12006 v13011) fun v13014_2 => (some (⟨a2.kind,a2.value,a2.data,v13014_2⟩ : Core))))))))))))
mutual
def i_copyCore : Nat → Core → Option (Core)
 | 0,_ => none
 | n + 1,a0 => (Option.bind (g_Clone_sint64 a0.data) fun v2006 => (i_copyCore_l2 n a0 v2006 [] 0))
def i_copyCore_l2 : Nat → Core → (List Int) → (List Core) → Int → Option (Core)
 | 0,_,_,_,_ => none
 | n + 1,a0,v2006,p1_0,p1_1 => (if (decide (p1_1 < ((List.length a0.kids : Nat) : Int))) = true then (Option.bind (at? a0.kids p1_1) fun v5000 => (Option.bind (i_copyCore n v5000) fun v6003 => (Option.bind (app? p1_0 [v6003]) fun v6005 => (i_copyCore_l2 n a0 v2006 v6005 (IntKind.i64.wrap (p1_1 + 1)))))) else (some (⟨a0.kind,a0.value,v2006,p1_0⟩ : Core)))
end
end Go.Proofs.YtjdinbgcgbigoaaGreat.Ab
