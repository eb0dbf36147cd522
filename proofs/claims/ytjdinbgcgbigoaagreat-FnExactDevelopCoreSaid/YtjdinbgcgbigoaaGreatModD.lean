/-
  Models of the functions. Printed by wip/ab/gen.py.
-/
import Derived.Test.YtjdinbgcgbigoaaGreatModE
namespace Go.Proofs.YtjdinbgcgbigoaaGreat.Ab
set_option linter.unusedVariables false
set_option linter.unusedSimpArgs false
set_option maxRecDepth 20000
set_option maxHeartbeats 4000000
open Go.RowKit
def l_markBook (a0 : Book) (a1 : Int) : Option (Int × (List Core)) :=
 (Option.bind (l_markCoreS fuel a0.defs a1) fun v2003 => (some (v2003.1, v2003.2)))
mutual
def s_l06Erased : Nat → Core → Option (Bool)
 | 0, _ => none
 | n + 1, a0 => (if (decide (a0.kind = 6)) = true then (s_l06Erased_j1 n a0 true) else (s_l06Erased_j1 n a0 (decide (a0.kind = 7))))
def s_l06Erased_j1 : Nat → Core → Bool → Option (Bool)
 | 0, _, _ => none
 | n + 1, a0, p0_0 => (if p0_0 = true then (some false) else (s_l06Erased_l2 n a0 0))
def s_l06Erased_l2 : Nat → Core → Int → Option (Bool)
 | 0, _, _ => none
 | n + 1, a0, p1_0 => (if (decide (p1_0 < ((List.length a0.kids : Nat) : Int))) = true then (Option.bind (at? a0.kids p1_0) fun v7005 => (Option.bind (s_l06Erased n v7005) fun v7006 => (if (!v7006) = true then (some false) else (s_l06Erased_l2 n a0 (IntKind.i64.wrap (p1_0 + 1)))))) else (some true))
end
def s_l08State_l2 : Nat → Book → Int → Option (Bool)
 | 0, _, _ => none
 | n + 1, a0, p1_0 => (if (decide (p1_0 < ((List.length a0.defs : Nat) : Int))) = true then (Option.bind (at? a0.defs p1_0) fun v7005 => (Option.bind (s_l06Erased fuel v7005) fun v7006 => (if (!v7006) = true then (some false) else (s_l08State_l2 n a0 (IntKind.i64.wrap (p1_0 + 1)))))) else (some true))
def s_l08State_j1 (a0 : Book) (p0_0 : Bool) : Option (Bool) :=
 (if p0_0 = true then (some false) else (s_l08State_l2 fuel a0 0))
def s_l08State (a0 : Book) (a1 : Core) : Option (Bool) :=
 (Option.bind (s_l06Book a0) fun v2001 => (if (!v2001) = true then (s_l08State_j1 a0 true) else (Option.bind (s_l06Closed a1) fun v2005 => (if (!v2005) = true then (s_l08State_j1 a0 true) else (Option.bind (s_l06Erased fuel a1) fun v2010 => (if (!v2010) = true then (s_l08State_j1 a0 true) else (Option.bind (s_l06Refs fuel a1 ((List.length a0.defs : Nat) : Int)) fun v2020 => (s_l08State_j1 a0 (!v2020)))))))))
def s_l08Kind_j1 (a0 : Core) (p0_0 : Bool) : Option (Int) :=
 (if p0_0 = true then (some 3) else (Option.bind (at? a0.kids 0) fun v21004 => (if (decide (v21004.kind = 11)) = true then (some 4) else (some 0))))
def s_l08Kind (a0 : Core) : Option (Int) :=
 (if (decide (a0.kind = 5)) = true then (Option.bind (at? a0.kids 0) fun v4004 => (if (decide (v4004.kind = 4)) = true then (some 1) else (if (decide (v4004.kind = 11)) = true then (some 4) else (some 0)))) else (if (decide (a0.kind = 3)) = true then (Option.bind (at? a0.kids 0) fun v10004 => (if (decide (v10004.kind = 11)) = true then (some 4) else (Option.bind (at? a0.kids 0) fun v12004 => (if (decide (v12004.kind = 2)) = true then (Option.bind (at? a0.kids 1) fun v13004 => (if (decide (v13004.kind = 2)) = true then (some 2) else (if (decide (v13004.kind = 11)) = true then (some 4) else (some 0)))) else (some 0))))) else (if (decide (a0.kind = 9)) = true then (Option.bind (at? a0.kids 0) fun v19004 => (if (decide (v19004.kind = 8)) = true then (Option.bind (at? a0.kids 0) fun v19013 => (s_l08Kind_j1 a0 (decide (v19013.value < ((List.length a0.data : Nat) : Int))))) else (s_l08Kind_j1 a0 false))) else (if (decide (a0.kind = 10)) = true then (Option.bind (at? a0.kids 0) fun v24004 => (if (decide (v24004.kind = 2)) = true then (some 3) else (if (decide (v24004.kind = 11)) = true then (some 4) else (some 0)))) else (some 0)))))
def s_l06N (a0 : Int) : Option (Core) :=
 (some (⟨2, a0, [], []⟩ : Core))
def s_Wrap32 (a0 : Int) : Option (Int) :=
 (some (IntKind.i64.wrap (IntKind.i32.wrap (IntKind.u32.wrap (IntKind.u64.wrap a0)))))
def s_l01Bool (a0 : Bool) : Option (Int) :=
 (if a0 = true then (some 1) else (some 0))
def s_Operate (a0 : Int) (a1 : Int) (a2 : Int) : Option (Int) :=
 (Option.bind (s_Wrap32 a1) fun v2001 => (Option.bind (s_Wrap32 a2) fun v3001 => (if (decide (a0 = 1)) = true then (Option.bind (s_Wrap32 (IntKind.i64.wrap (v2001 + v3001))) fun v6003 => (some v6003)) else (if (decide (a0 = 2)) = true then (Option.bind (s_Wrap32 (IntKind.i64.wrap (v2001 - v3001))) fun v8003 => (some v8003)) else (if (decide (a0 = 3)) = true then (Option.bind (s_Wrap32 (IntKind.i64.wrap (v2001 * v3001))) fun v10003 => (some v10003)) else (if (decide (a0 = 4)) = true then (if (decide (v3001 = 0)) = true then (some 0) else (Option.bind (nz? v3001) fun v14002 => (Option.bind (s_Wrap32 (IntKind.i64.wrap (Int.tdiv v2001 v3001))) fun v14003 => (some v14003)))) else (if (decide (a0 = 5)) = true then (Option.bind (s_l01Bool (decide (v2001 < v3001))) fun v16003 => (some v16003)) else (if (decide (a0 = 6)) = true then (Option.bind (s_l01Bool (decide (v2001 = v3001))) fun v18003 => (some v18003)) else (some 0)))))))))
def s_l06R (a0 : Int) : Option (Core) :=
 (some (⟨11, a0, [], []⟩ : Core))
def s_l06C (a0 : Int) (a1 : Int) (a2 : List Core) : Option (Core) :=
 (some (⟨a0, a1, [], a2⟩ : Core))
def s_l06A (a0 : Core) (a1 : Core) : Option (Core) :=
 (Option.bind (s_l06C 5 0 [a0, a1]) fun v2003 => (some v2003))
def s_l08Chosen_l2 : Nat → (List Core) → Int → Int → (List Int) → (List Core) → Int → Option (Core)
 | 0, _, _, _, _, _, _ => none
 | n + 1, a1, p1_0, p1_1, p1_2, p1_3, p1_4 => (if (decide (p1_4 < ((List.length a1 : Nat) : Int))) = true then (Option.bind (at? a1 p1_4) fun v10003 => (Option.bind (s_l06A (⟨p1_0, p1_1, p1_2, p1_3⟩ : Core) v10003) fun v10005 => (s_l08Chosen_l2 n a1 v10005.kind v10005.value v10005.data v10005.kids (IntKind.i64.wrap (p1_4 + 1))))) else (some (⟨p1_0, p1_1, p1_2, p1_3⟩ : Core)))
def s_l08Chosen (a0 : Core) (a1 : List Core) : Option (Core) :=
 (if (decide (a0.kind = 10)) = true then (Option.bind (at? a0.kids 0) fun v3004 => (if (!decide (v3004.value = 0)) = true then (Option.bind (at? a0.data 0) fun v4004 => (Option.bind (s_l06R v4004) fun v4006 => (some v4006))) else (Option.bind (at? a0.data 1) fun v5004 => (Option.bind (s_l06R v5004) fun v5006 => (some v5006))))) else (Option.bind (at? a0.kids 0) fun v6008 => (Option.bind (at? a0.data v6008.value) fun v6011 => (Option.bind (s_l06R v6011) fun v6013 => (s_l08Chosen_l2 fuel a1 v6013.kind v6013.value v6013.data v6013.kids 0)))))
def s_l08Expand_j1 (a0 : Book) (a1 : Core) (v2014 : List Core) (p0_0 : Int) : Option (Core) :=
 (Option.bind (at? a1.kids p0_0) fun v6012 => (Option.bind (at? a0.defs v6012.value) fun v6015 => (Option.bind (at? v2014 p0_0) fun v6017 => (Option.bind (set1? v2014 p0_0 v6015) fun v6018_2 => (some (⟨a1.kind, a1.value, a1.data, v6018_2⟩ : Core))))))
def s_l08Expand (a0 : Book) (a1 : Core) (a2 : List Core) : Option (Core) :=
 (Option.bind (app? [] a2) fun v2014 => (Option.bind (at? a1.kids 0) fun v4004 => (if (!decide (v4004.kind = 11)) = true then (s_l08Expand_j1 a0 a1 v2014 1) else (s_l08Expand_j1 a0 a1 v2014 0))))
def s_l08Develop_j6 (p2_0 : Int) (p3_0 : Int) (p3_1 : Int) (p3_2 : List Int) (p3_3 : List Core) (p5_0 : Int) : Option (Core × Int × Int) :=
 (some ((⟨p3_0, p3_1, p3_2, p3_3⟩ : Core), p5_0, p2_0))
def s_l08Develop_j5 (p2_0 : Int) (p3_0 : Int) (p3_1 : Int) (p3_2 : List Int) (p3_3 : List Core) (p3_4 : Int) (p4_0 : Bool) : Option (Core × Int × Int) :=
 (if p4_0 = true then (s_l08Develop_j6 p2_0 p3_0 p3_1 p3_2 p3_3 4) else (s_l08Develop_j6 p2_0 p3_0 p3_1 p3_2 p3_3 p3_4))
def s_l08Develop_j4 (p2_0 : Int) (p3_0 : Int) (p3_1 : Int) (p3_2 : List Int) (p3_3 : List Core) (p3_4 : Int) : Option (Core × Int × Int) :=
 (if (decide (p3_4 = 0)) = true then (Option.bind (s_l08Fits (⟨p3_0, p3_1, p3_2, p3_3⟩ : Core)) fun v24003 => (s_l08Develop_j5 p2_0 p3_0 p3_1 p3_2 p3_3 p3_4 (!v24003))) else (s_l08Develop_j5 p2_0 p3_0 p3_1 p3_2 p3_3 p3_4 false))
mutual
def s_l08Develop : Nat → Book → Core → Int → Option (Core × Int × Int)
 | 0, _, _, _ => none
 | n + 1, a0, a1, a2 => (Option.bind (s_l08Kind a1) fun v2001 => (if (!decide (v2001 = 0)) = true then (s_l08Develop_j1 n a0 a1 v2001 (IntKind.i64.wrap (a2 + 1))) else (s_l08Develop_j1 n a0 a1 v2001 a2)))
def s_l08Develop_j1 : Nat → Book → Core → Int → Int → Option (Core × Int × Int)
 | 0, _, _, _, _ => none
 | n + 1, a0, a1, v2001, p0_0 => (s_l08Develop_l3 n a0 a1 v2001 p0_0 [] 0)
def s_l08Develop_l3 : Nat → Book → Core → Int → Int → (List Core) → Int → Option (Core × Int × Int)
 | 0, _, _, _, _, _, _ => none
 | n + 1, a0, a1, v2001, p2_0, p2_1, p2_2 => (if (decide (p2_2 < ((List.length a1.kids : Nat) : Int))) = true then (Option.bind (at? a1.kids p2_2) fun v9006 => (Option.bind (s_l08Develop n a0 v9006 p2_0) fun v9008 => (if (!decide (v9008.2.1 = 0)) = true then (some ((⟨0, 0, [], []⟩ : Core), v9008.2.1, v9008.2.2)) else (Option.bind (app? p2_1 [v9008.1]) fun v12003 => (s_l08Develop_l3 n a0 a1 v2001 v9008.2.2 v12003 (IntKind.i64.wrap (p2_2 + 1))))))) else (if (decide (v2001 = 1)) = true then (Option.bind (at? p2_1 0) fun v17001 => (Option.bind (at? v17001.kids 0) fun v17004 => (Option.bind (at? p2_1 1) fun v17006 => (Option.bind (s_l06Instance v17004 v17006) fun v17007 => (s_l08Develop_j4 p2_0 v17007.1.kind v17007.1.value v17007.1.data v17007.1.kids v17007.2))))) else (if (decide (v2001 = 2)) = true then (Option.bind (at? a1.kids 0) fun v19008 => (Option.bind (at? a1.kids 1) fun v19015 => (Option.bind (s_Operate a1.value v19008.value v19015.value) fun v19018 => (Option.bind (s_l06N v19018) fun v19019 => (s_l08Develop_j4 p2_0 v19019.kind v19019.value v19019.data v19019.kids 0))))) else (if (decide (v2001 = 3)) = true then (Option.bind (at? p2_1 0) fun v21002 => (Option.bind (s_l08Chosen a1 v21002.kids) fun v21005 => (s_l08Develop_j4 p2_0 v21005.kind v21005.value v21005.data v21005.kids 0))) else (if (decide (v2001 = 4)) = true then (Option.bind (s_l08Expand a0 a1 p2_1) fun v23003 => (s_l08Develop_j4 p2_0 v23003.kind v23003.value v23003.data v23003.kids 0)) else (s_l08Develop_j4 p2_0 a1.kind a1.value a1.data p2_1 0))))))
end
def s_l06Own (a0 : Core) : Option (Core) :=
 (Option.bind (s_l06Shift fuel a0 0 0) fun v2001 => (some v2001))
def s_DevelopCore (a0 : Book) (a1 : Core) : Option (Core × Int × Int) :=
 (Option.bind (s_l08State a0 a1) fun v2000 => (if (!v2000) = true then (some ((⟨0, 0, [], []⟩ : Core), 0, 1)) else (Option.bind (s_l08Develop fuel a0 a1 0) fun v5000 => (if (!decide (v5000.2.1 = 0)) = true then (some ((⟨0, 0, [], []⟩ : Core), 0, v5000.2.1)) else (Option.bind (s_l06Own v5000.1) fun v8000 => (some (v8000, v5000.2.2, 0)))))))
def i_IsErased_1 (a0 : Core) : Option (Bool) :=
 (if (decide (a0.kind = 6)) = true then (some true) else (some (decide (a0.kind = 7))))
def i_IsErased (a0 : Core) : Option (Bool) :=
 (Option.bind (i_ValidCore a0) fun v2001 => (if v2001 = true then (Option.bind (i_anyCore fuel a0 (fun y0 => i_IsErased_1 y0)) fun v2004 => (some (!v2004))) else (some false)))
def i_isErasedBook_1 (a0 : Core) : Option (Bool) :=
 (Option.bind (i_IsErased a0) fun v2001 => (some (!v2001)))
def i_isErasedBook (a0 : Book) : Option (Bool) :=
 (Option.bind (i_ValidBook a0) fun v2001 => (if v2001 = true then (Option.bind (g_ContainsFunc_simpl_Core a0.defs (fun y0 => i_isErasedBook_1 y0)) fun v2005 => (some (!v2005))) else (some false)))
def i_isErasedTerm (a0 : Book) (a1 : Core) : Option (Bool) :=
 (Option.bind (i_IsClosed a1) fun v2001 => (if v2001 = true then (Option.bind (i_IsErased a1) fun v2004 => (if v2004 = true then (Option.bind (i_namesOnly a1 ((List.length a0.defs : Nat) : Int)) fun v2011 => (some v2011)) else (some false))) else (some false)))
def i_isMachineState (a0 : Book) (a1 : Core) : Option (Bool) :=
 (Option.bind (i_isErasedBook a0) fun v2001 => (if v2001 = true then (Option.bind (i_isErasedTerm a0 a1) fun v2005 => (some v2005)) else (some false)))
def i_redexKind_j2 (p1_0 : Bool) : Option (Int) :=
 (if p1_0 = true then (some 4) else (some 0))
def i_redexKind_j1 (v4002 : Core) (v13002 : Core) (p0_0 : Bool) : Option (Int) :=
 (if p0_0 = true then (some 2) else (if (decide (v4002.kind = 11)) = true then (i_redexKind_j2 true) else (if (decide (v4002.kind = 2)) = true then (i_redexKind_j2 (decide (v13002.kind = 11))) else (i_redexKind_j2 false))))
def i_redexKind_j5 (p4_0 : Bool) : Option (Int) :=
 (if p4_0 = true then (some 3) else (some 0))
def i_redexKind_j4 (a0 : Core) (v4002 : Core) (p3_0 : Bool) : Option (Int) :=
 (if p3_0 = true then (i_redexKind_j5 p3_0) else (if (decide (a0.kind = 10)) = true then (i_redexKind_j5 (decide (v4002.kind = 2))) else (i_redexKind_j5 false)))
def i_redexKind_j3 (a0 : Core) (v4002 : Core) (p2_0 : Bool) : Option (Int) :=
 (if p2_0 = true then (if (decide (v4002.kind = 11)) = true then (some 4) else (if (decide (a0.kind = 9)) = true then (if (decide (v4002.kind = 8)) = true then (i_redexKind_j4 a0 v4002 (decide (v4002.value < ((List.length a0.data : Nat) : Int)))) else (i_redexKind_j4 a0 v4002 false)) else (i_redexKind_j4 a0 v4002 false))) else (some 0))
def i_redexKind (a0 : Core) : Option (Int) :=
 (if (decide (((List.length a0.kids : Nat) : Int) = 0)) = true then (some 0) else (Option.bind (at? a0.kids 0) fun v4002 => (if (decide (a0.kind = 5)) = true then (if (decide (v4002.kind = 4)) = true then (some 1) else (if (decide (v4002.kind = 11)) = true then (some 4) else (some 0))) else (if (decide (a0.kind = 3)) = true then (Option.bind (at? a0.kids 1) fun v13002 => (if (decide (v4002.kind = 2)) = true then (i_redexKind_j1 v4002 v13002 (decide (v13002.kind = 2))) else (i_redexKind_j1 v4002 v13002 false))) else (if (decide (a0.kind = 9)) = true then (i_redexKind_j3 a0 v4002 (decide (a0.kind = 9))) else (i_redexKind_j3 a0 v4002 (decide (a0.kind = 10))))))))
def i_coreNum (a0 : Int) : Option (Core) :=
 (some (⟨2, a0, [], []⟩ : Core))
def i_Wrap32 (a0 : Int) : Option (Int) :=
 (some (IntKind.i64.wrap (IntKind.i32.wrap a0)))
def i_Operate (a0 : Int) (a1 : Int) (a2 : Int) : Option (Int) :=
 (Option.bind (i_Wrap32 a1) fun v2001 => (Option.bind (i_Wrap32 a2) fun v2003 => (if (decide (a0 = 1)) = true then (Option.bind (i_Wrap32 (IntKind.i64.wrap (v2001 + v2003))) fun v5003 => (some v5003)) else (if (decide (a0 = 2)) = true then (Option.bind (i_Wrap32 (IntKind.i64.wrap (v2001 - v2003))) fun v7003 => (some v7003)) else (if (decide (a0 = 3)) = true then (Option.bind (i_Wrap32 (IntKind.i64.wrap (v2001 * v2003))) fun v9003 => (some v9003)) else (if (decide (a0 = 4)) = true then (if (decide (v2003 = 0)) = true then (some 0) else (Option.bind (nz? v2003) fun v13002 => (Option.bind (i_Wrap32 (IntKind.i64.wrap (Int.tdiv v2001 v2003))) fun v13003 => (some v13003)))) else (if (decide (a0 = 5)) = true then (Option.bind (i_truth (decide (v2001 < v2003))) fun v15003 => (some v15003)) else (if (decide (a0 = 6)) = true then (Option.bind (i_truth (decide (v2001 = v2003))) fun v17003 => (some v17003)) else (some 0)))))))))
def i_coreRef (a0 : Int) : Option (Core) :=
 (some (⟨11, a0, [], []⟩ : Core))
def i_coreApp (a0 : Core) (a1 : Core) : Option (Core) :=
 (some (⟨5, 0, [], [a0, a1]⟩ : Core))
def i_chosen_l2 : Nat → (List Core) → Int → Int → (List Int) → (List Core) → Int → Option (Core)
 | 0, _, _, _, _, _, _ => none
 | n + 1, a1, p1_0, p1_1, p1_2, p1_3, p1_4 => (if (decide (p1_4 < ((List.length a1 : Nat) : Int))) = true then (Option.bind (at? a1 p1_4) fun v5000 => (Option.bind (i_coreApp (⟨p1_0, p1_1, p1_2, p1_3⟩ : Core) v5000) fun v6002 => (i_chosen_l2 n a1 v6002.kind v6002.value v6002.data v6002.kids (IntKind.i64.wrap (p1_4 + 1))))) else (some (⟨p1_0, p1_1, p1_2, p1_3⟩ : Core)))
def i_chosen (a0 : Int) (a1 : List Core) : Option (Core) :=
 (Option.bind (i_coreRef a0) fun v2001 => (i_chosen_l2 fuel a1 v2001.kind v2001.value v2001.data v2001.kids 0))
def g_Clone_simpl_Core (a0 : List Core) : Option ((List Core)) :=
 (Option.bind (app? [] a0) fun v4002 => (some v4002))
def i_contract (a0 : Book) (a1 : Int) (a2 : Core) : Option (Core) :=
 (if (decide (a1 = 1)) = true then (Option.bind (at? a2.kids 0) fun v4002 => (Option.bind (at? v4002.kids 0) fun v4005 => (Option.bind (at? a2.kids 1) fun v4009 => (Option.bind (i_instantiate v4005 v4009) fun v4011 => (some v4011))))) else (if (decide (a1 = 2)) = true then (Option.bind (at? a2.kids 0) fun v6004 => (Option.bind (at? a2.kids 1) fun v6009 => (Option.bind (i_Operate a2.value v6004.value v6009.value) fun v6012 => (Option.bind (i_coreNum v6012) fun v6013 => (some v6013))))) else (if (decide (a1 = 3)) = true then (if (decide (a2.kind = 9)) = true then (Option.bind (at? a2.kids 0) fun v9004 => (Option.bind (at? a2.data v9004.value) fun v9007 => (Option.bind (at? a2.kids 0) fun v9011 => (Option.bind (i_chosen v9007 v9011.kids) fun v9014 => (some v9014))))) else (Option.bind (at? a2.kids 0) fun v10004 => (Option.bind (i_truth (decide (v10004.value = 0))) fun v10008 => (Option.bind (at? a2.data v10008) fun v10009 => (Option.bind (i_coreRef v10009) fun v10011 => (some v10011)))))) else (Option.bind (g_Clone_simpl_Core a2.kids) fun v11008 => (Option.bind (at? a2.kids 0) fun v12002 => (Option.bind (i_truth (!decide (v12002.kind = 11))) fun v12006 => (Option.bind (at? a2.kids v12006) fun v13008 => (Option.bind (at? a0.defs v13008.value) fun v13011 => (Option.bind (at? v11008 v12006) fun v13013 => (Option.bind (set1? v11008 v12006 v13011) fun v13014_2 => (some (⟨a2.kind, a2.value, a2.data, v13014_2⟩ : Core))))))))))))
def i_develop_j3 (p2_0 : Int) (p2_1 : Int) (p2_2 : List Int) (p2_3 : List Core) (p2_4 : Int) : Option (Core × Int × Bool) :=
 (Option.bind (i_coreFits (⟨p2_0, p2_1, p2_2, p2_3⟩ : Core)) fun v17003 => (some ((⟨p2_0, p2_1, p2_2, p2_3⟩ : Core), p2_4, v17003)))
mutual
def i_develop : Nat → Book → Core → Option (Core × Int × Bool)
 | 0, _, _ => none
 | n + 1, a0, a1 => (Option.bind (g_Clone_sint64 a1.data) fun v2006 => (i_develop_l2 n a0 a1 v2006 [] 0 0))
def i_develop_l2 : Nat → Book → Core → (List Int) → (List Core) → Int → Int → Option (Core × Int × Bool)
 | 0, _, _, _, _, _, _ => none
 | n + 1, a0, a1, v2006, p1_0, p1_1, p1_2 => (if (decide (p1_2 < ((List.length a1.kids : Nat) : Int))) = true then (Option.bind (at? a1.kids p1_2) fun v6000 => (Option.bind (i_develop n a0 v6000) fun v7002 => (if (!v7002.2.2) = true then (some ((⟨0, 0, [], []⟩ : Core), 0, false)) else (Option.bind (app? p1_0 [v7002.1]) fun v10004 => (i_develop_l2 n a0 a1 v2006 v10004 (IntKind.i64.wrap (p1_1 + v7002.2.1)) (IntKind.i64.wrap (p1_2 + 1))))))) else (Option.bind (i_redexKind a1) fun v13001 => (if (!decide (v13001 = 0)) = true then (Option.bind (i_contract a0 v13001 (⟨a1.kind, a1.value, v2006, p1_0⟩ : Core)) fun v15003 => (i_develop_j3 v15003.kind v15003.value v15003.data v15003.kids (IntKind.i64.wrap (p1_1 + 1)))) else (i_develop_j3 a1.kind a1.value v2006 p1_0 p1_1))))
end
mutual
def i_copyCore : Nat → Core → Option (Core)
 | 0, _ => none
 | n + 1, a0 => (Option.bind (g_Clone_sint64 a0.data) fun v2006 => (i_copyCore_l2 n a0 v2006 [] 0))
def i_copyCore_l2 : Nat → Core → (List Int) → (List Core) → Int → Option (Core)
 | 0, _, _, _, _ => none
 | n + 1, a0, v2006, p1_0, p1_1 => (if (decide (p1_1 < ((List.length a0.kids : Nat) : Int))) = true then (Option.bind (at? a0.kids p1_1) fun v5000 => (Option.bind (i_copyCore n v5000) fun v6003 => (Option.bind (app? p1_0 [v6003]) fun v6005 => (i_copyCore_l2 n a0 v2006 v6005 (IntKind.i64.wrap (p1_1 + 1)))))) else (some (⟨a0.kind, a0.value, v2006, p1_0⟩ : Core)))
end
def i_DevelopCore (a0 : Book) (a1 : Core) : Option (Core × Int × Int) :=
 (Option.bind (i_isMachineState a0 a1) fun v2002 => (if (!v2002) = true then (some ((⟨0, 0, [], []⟩ : Core), 0, 1)) else (Option.bind (i_develop fuel a0 a1) fun v4002 => (if (!v4002.2.2) = true then (some ((⟨0, 0, [], []⟩ : Core), 0, 4)) else (Option.bind (i_copyCore fuel v4002.1) fun v7001 => (some (v7001, v4002.2.1, 0)))))))
def l_FnExactDevelopCore_j3 (v12002 : Core × Int × Int) (v25002 : Int × (List Int) × (List Core)) (p2_0 : Bool) : Option (Bool) :=
 (if p2_0 = true then (some false) else (Option.bind (l_heldCore (⟨v12002.1.kind, v12002.1.value, v25002.2.1, v25002.2.2⟩ : Core) 1) fun v36002 => (if (decide (v36002 < 0)) = true then (some false) else (if (!decide (v36002 = v25002.1)) = true then (some false) else (some true)))))
def l_FnExactDevelopCore_j2 (a0 : Book) (a1 : Core) (v9004 : Core × Int × Int) (v12002 : Core × Int × Int) (p1_0 : Bool) : Option (Bool) :=
 (if p1_0 = true then (some false) else (Option.bind (l_markCore v12002.1 1) fun v25002 => (Option.bind (l_heldCore (⟨v12002.1.kind, v12002.1.value, v25002.2.1, v25002.2.2⟩ : Core) 1) fun v27002 => (if (decide (v27002 < 0)) = true then (some false) else (if (!decide (v27002 = v25002.1)) = true then (some false) else (Option.bind (l_toBook a0) fun v32001 => (Option.bind (l_toCore fuel a1) fun v32003 => (Option.bind (i_DevelopCore v32001 v32003) fun v32004 => (Option.bind (l_eqCore fuel v32004.1 v9004.1) fun v33002 => (if (!v33002) = true then (l_FnExactDevelopCore_j3 v12002 v25002 true) else (if (!decide (v32004.2.1 = v9004.2.1)) = true then (l_FnExactDevelopCore_j3 v12002 v25002 true) else (l_FnExactDevelopCore_j3 v12002 v25002 (!decide (v32004.2.2 = v9004.2.2))))))))))))))
def l_FnExactDevelopCore_j1 (a0 : Book) (a1 : Core) (v9004 : Core × Int × Int) (v10001 : Book) (v11001 : Core) (v12002 : Core × Int × Int) (p0_0 : Bool) : Option (Bool) :=
 (if p0_0 = true then (some false) else (Option.bind (l_toBook a0) fun v15002 => (Option.bind (l_eqBook v10001 v15002) fun v15003 => (if (!v15003) = true then (some false) else (Option.bind (l_toCore fuel a1) fun v17002 => (Option.bind (l_eqCore fuel v11001 v17002) fun v17003 => (if (!v17003) = true then (some false) else (Option.bind (l_markBook v10001 1) fun v20002 => (Option.bind (l_markCore v11001 v20002.1) fun v21002 => (if (decide (v21002.1 < 0)) = true then (l_FnExactDevelopCore_j2 a0 a1 v9004 v12002 true) else (Option.bind (l_eqCore fuel v12002.1 v9004.1) fun v22005 => (if (!v22005) = true then (l_FnExactDevelopCore_j2 a0 a1 v9004 v12002 true) else (if (!decide (v12002.2.1 = v9004.2.1)) = true then (l_FnExactDevelopCore_j2 a0 a1 v9004 v12002 true) else (l_FnExactDevelopCore_j2 a0 a1 v9004 v12002 (!decide (v12002.2.2 = v9004.2.2))))))))))))))))
def l_FnExactDevelopCore (a0 : Book) (a1 : Core) : Option (Bool) :=
 (Option.bind (l_szBook a0 1048576) fun v3002 => (if (decide (v3002 < 0)) = true then (some true) else (Option.bind (l_szCore fuel a1 v3002) fun v6002 => (if (decide (v6002 < 0)) = true then (some true) else (Option.bind (l_toBook a0) fun v9001 => (Option.bind (l_toCore fuel a1) fun v9003 => (Option.bind (s_DevelopCore v9001 v9003) fun v9004 => (Option.bind (l_toBook a0) fun v10001 => (Option.bind (l_toCore fuel a1) fun v11001 => (Option.bind (i_DevelopCore v10001 v11001) fun v12002 => (Option.bind (l_eqCore fuel v12002.1 v9004.1) fun v13002 => (if (!v13002) = true then (l_FnExactDevelopCore_j1 a0 a1 v9004 v10001 v11001 v12002 true) else (if (!decide (v12002.2.1 = v9004.2.1)) = true then (l_FnExactDevelopCore_j1 a0 a1 v9004 v10001 v11001 v12002 true) else (l_FnExactDevelopCore_j1 a0 a1 v9004 v10001 v11001 v12002 (!decide (v12002.2.2 = v9004.2.2))))))))))))))))
end Go.Proofs.YtjdinbgcgbigoaaGreat.Ab
