/-
  Models of the functions. Printed by wip/ab/gen.py.
-/
import Derived.Test.YtckcfdggbbabfaaGreatMTyB
import Derived.Test.YtckcfdggbbabfaaGreatModJ
namespace Go.Proofs.YtckcfdggbbabfaaGreat.Ab
set_option linter.unusedVariables false
set_option linter.unusedSimpArgs false
set_option maxRecDepth 20000
set_option maxHeartbeats 4000000
open Go.RowKit
def s_l15Asked_j2 (p1_0 : Bool) : Option (Int) :=
 (if p1_0 = true then (some 2) else (some 0))
def s_l15Asked_j1 (a2 : List Int) (a3 : Int) (p0_0 : Bool) : Option (Int) :=
 (if p0_0 = true then (some 1) else (Option.bind (s_l15Schedule a2) fun v4001 => (if (!v4001) = true then (s_l15Asked_j2 true) else (Option.bind (s_l00In a3 0 4000) fun v4005 => (s_l15Asked_j2 (!v4005))))))
def s_l15Asked (a0 : List Net) (a1 : Net) (a2 : List Int) (a3 : Int) : Option (Int) :=
 (Option.bind (s_l13Book a0) fun v2001 => (if (!v2001) = true then (s_l15Asked_j1 a2 a3 true) else (Option.bind (s_l11Ok a1) fun v2005 => (s_l15Asked_j1 a2 a3 (!v2005)))))
def s_AddJob_j4 (a0 : Queue) (a1 : List Net) (a2 : Net) (a3 : List Int) (a4 : Int) (a5 : Int) (p3_0 : Int) : Option (Queue × Int × Int) :=
 (if (!decide (p3_0 = 0)) = true then (some ((⟨0, 0, 0, []⟩ : Queue), 0, p3_0)) else (Option.bind (s_l34Own a0) fun v11000 => (Option.bind (s_l34OwnJob (⟨a0.nextId, a5, 1, 0, a4, 0, [0, 0, 0, 0, 0, 0, 0], a3, a1, a2⟩ : Job)) fun v13002 => (Option.bind (app? v11000.jobs [v13002]) fun v13004 => (some ((⟨v11000.quantum, (IntKind.i64.wrap (v11000.nextId + 1)), v11000.turn, v13004⟩ : Queue), a0.nextId, 0))))))
def s_AddJob_j3 (a0 : Queue) (a1 : List Net) (a2 : Net) (a3 : List Int) (a4 : Int) (a5 : Int) (p1_0 : Int) (p2_0 : Bool) : Option (Queue × Int × Int) :=
 (if p2_0 = true then (s_AddJob_j4 a0 a1 a2 a3 a4 a5 4) else (s_AddJob_j4 a0 a1 a2 a3 a4 a5 p1_0))
def s_AddJob_j2 (a0 : Queue) (a1 : List Net) (a2 : Net) (a3 : List Int) (a4 : Int) (a5 : Int) (p1_0 : Int) : Option (Queue × Int × Int) :=
 (if (decide (p1_0 = 0)) = true then (if (decide (((List.length a0.jobs : Nat) : Int) = 6)) = true then (s_AddJob_j3 a0 a1 a2 a3 a4 a5 p1_0 true) else (s_AddJob_j3 a0 a1 a2 a3 a4 a5 p1_0 (decide (a0.nextId = 1000000000)))) else (s_AddJob_j3 a0 a1 a2 a3 a4 a5 p1_0 false))
def s_AddJob_j1 (a0 : Queue) (a1 : List Net) (a2 : Net) (a3 : List Int) (a4 : Int) (a5 : Int) (v4003 : Int) (p0_0 : Bool) : Option (Queue × Int × Int) :=
 (if p0_0 = true then (s_AddJob_j2 a0 a1 a2 a3 a4 a5 2) else (s_AddJob_j2 a0 a1 a2 a3 a4 a5 v4003))
def s_AddJob (a0 : Queue) (a1 : List Net) (a2 : Net) (a3 : List Int) (a4 : Int) (a5 : Int) : Option (Queue × Int × Int) :=
 (Option.bind (s_l34Ok a0) fun v2000 => (if (!v2000) = true then (some ((⟨0, 0, 0, []⟩ : Queue), 0, 1)) else (Option.bind (s_l15Asked a1 a2 a3 a4) fun v4003 => (if (decide (v4003 = 0)) = true then (Option.bind (s_l00In a5 1 4) fun v5004 => (s_AddJob_j1 a0 a1 a2 a3 a4 a5 v4003 (!v5004))) else (s_AddJob_j1 a0 a1 a2 a3 a4 a5 v4003 false)))))
def i_newRewriter (a0 : List Net) (a1 : Net) : Option (Rewriter) :=
 (Option.bind (i_copyNet a1) fun v2001 => (some (⟨v2001, a0, []⟩ : Rewriter)))
def i_newReducer (a0 : List Net) (a1 : Net) : Option (Unit) :=
 (Option.bind (i_newRewriter a0 a1) fun v2002 => (Option.bind (rep? 7 (0 : Int)) fun v2003 => (some ())))
def i_reduction_j2 (a0 : List Net) (a1 : Net) (p1_0 : Bool) : Option (Int) :=
 (if p1_0 = true then (some 2) else (Option.bind (i_newReducer a0 a1) fun v6002 => (some 0)))
def i_reduction_j1 (a0 : List Net) (a1 : Net) (a2 : List Int) (a3 : Int) (p0_0 : Bool) : Option (Int) :=
 (if p0_0 = true then (some 1) else (Option.bind (i_ValidSchedule a2) fun v4001 => (if (!v4001) = true then (i_reduction_j2 a0 a1 true) else (if (decide (a3 < 0)) = true then (i_reduction_j2 a0 a1 true) else (i_reduction_j2 a0 a1 (decide (4000 < a3)))))))
def i_reduction (a0 : List Net) (a1 : Net) (a2 : List Int) (a3 : Int) : Option (Int) :=
 (Option.bind (i_ValidTemplates a0) fun v2001 => (if (!v2001) = true then (i_reduction_j1 a0 a1 a2 a3 true) else (Option.bind (i_ValidNet a1) fun v2005 => (i_reduction_j1 a0 a1 a2 a3 (!v2005)))))
def i_AddJob_j2 (a0 : Queue) (a1 : List Net) (a2 : Net) (a3 : List Int) (a4 : Int) (a5 : Int) (p1_0 : Bool) : Option (Queue × Int × Int) :=
 (if p1_0 = true then (some ((⟨0, 0, 0, []⟩ : Queue), 0, 4)) else (Option.bind (i_copyQueue a0) fun v11001 => (Option.bind (rep? 7 (0 : Int)) fun v12006 => (Option.bind (i_copyJob (⟨a0.nextId, a5, 1, 0, a4, 0, v12006, a3, a1, a2⟩ : Job)) fun v12011 => (Option.bind (app? v11001.jobs [v12011]) fun v12013 => (some ((⟨v11001.quantum, (IntKind.i64.wrap (v11001.nextId + 1)), v11001.turn, v12013⟩ : Queue), a0.nextId, 0)))))))
def i_AddJob_j1 (a0 : Queue) (a1 : List Net) (a2 : Net) (a3 : List Int) (a4 : Int) (a5 : Int) (p0_0 : Bool) : Option (Queue × Int × Int) :=
 (if p0_0 = true then (some ((⟨0, 0, 0, []⟩ : Queue), 0, 2)) else (if (decide (((List.length a0.jobs : Nat) : Int) = 6)) = true then (i_AddJob_j2 a0 a1 a2 a3 a4 a5 true) else (i_AddJob_j2 a0 a1 a2 a3 a4 a5 (decide (a0.nextId = 1000000000)))))
def i_AddJob (a0 : Queue) (a1 : List Net) (a2 : Net) (a3 : List Int) (a4 : Int) (a5 : Int) : Option (Queue × Int × Int) :=
 (Option.bind (i_ValidQueue a0) fun v2001 => (if (!v2001) = true then (some ((⟨0, 0, 0, []⟩ : Queue), 0, 1)) else (Option.bind (i_reduction a1 a2 a3 a4) fun v4004 => (if (!decide (v4004 = 0)) = true then (some ((⟨0, 0, 0, []⟩ : Queue), 0, v4004)) else (if (decide (a5 < 1)) = true then (i_AddJob_j1 a0 a1 a2 a3 a4 a5 true) else (i_AddJob_j1 a0 a1 a2 a3 a4 a5 (decide (4 < a5))))))))
def l_FnExactAddJob_j3 (v19006 : Queue × Int × Int) (v38002 : Int × (List Job)) (p2_0 : Bool) : Option (Bool) :=
 (if p2_0 = true then (some false) else (Option.bind (l_heldQueue (⟨v19006.1.quantum, v19006.1.nextId, v19006.1.turn, v38002.2⟩ : Queue) 1) fun v49002 => (if (decide (v49002 < 0)) = true then (some false) else (if (!decide (v49002 = v38002.1)) = true then (some false) else (some true)))))
def l_FnExactAddJob_j2 (a0 : Queue) (a1 : List Net) (a2 : Net) (a3 : List Int) (a4 : Int) (a5 : Int) (v14010 : Queue × Int × Int) (v19006 : Queue × Int × Int) (p1_0 : Bool) : Option (Bool) :=
 (if p1_0 = true then (some false) else (Option.bind (l_markQueue v19006.1 1) fun v38002 => (Option.bind (l_heldQueue (⟨v19006.1.quantum, v19006.1.nextId, v19006.1.turn, v38002.2⟩ : Queue) 1) fun v40002 => (if (decide (v40002 < 0)) = true then (some false) else (if (!decide (v40002 = v38002.1)) = true then (some false) else (Option.bind (l_toQueue a0) fun v45001 => (Option.bind (l_toNetS a1) fun v45003 => (Option.bind (l_toNet a2) fun v45005 => (Option.bind (l_toInt64S a3) fun v45007 => (Option.bind (i_AddJob v45001 v45003 v45005 v45007 a4 a5) fun v45010 => (Option.bind (l_eqQueue v45010.1 v14010.1) fun v46002 => (if (!v46002) = true then (l_FnExactAddJob_j3 v19006 v38002 true) else (if (!decide (v45010.2.1 = v14010.2.1)) = true then (l_FnExactAddJob_j3 v19006 v38002 true) else (l_FnExactAddJob_j3 v19006 v38002 (!decide (v45010.2.2 = v14010.2.2))))))))))))))))
def l_FnExactAddJob_j1 (a0 : Queue) (a1 : List Net) (a2 : Net) (a3 : List Int) (a4 : Int) (a5 : Int) (v14010 : Queue × Int × Int) (v15001 : Queue) (v16001 : (List Net)) (v17001 : Net) (v18001 : (List Int)) (v19006 : Queue × Int × Int) (p0_0 : Bool) : Option (Bool) :=
 (if p0_0 = true then (some false) else (Option.bind (l_toQueue a0) fun v22002 => (Option.bind (l_eqQueue v15001 v22002) fun v22003 => (if (!v22003) = true then (some false) else (Option.bind (l_toNetS a1) fun v24002 => (Option.bind (l_eqNetS v16001 v24002) fun v24003 => (if (!v24003) = true then (some false) else (Option.bind (l_toNet a2) fun v26002 => (Option.bind (l_eqNet v17001 v26002) fun v26003 => (if (!v26003) = true then (some false) else (Option.bind (l_toInt64S a3) fun v28002 => (Option.bind (l_eqInt64S v18001 v28002) fun v28003 => (if (!v28003) = true then (some false) else (Option.bind (l_markQueue v15001 1) fun v31002 => (Option.bind (l_markNetS v16001 v31002.1) fun v32002 => (Option.bind (l_markNet v17001 v32002.1) fun v33002 => (Option.bind (l_markInt64S v18001 v33002.1) fun v34002 => (if (decide (v34002.1 < 0)) = true then (l_FnExactAddJob_j2 a0 a1 a2 a3 a4 a5 v14010 v19006 true) else (Option.bind (l_eqQueue v19006.1 v14010.1) fun v35005 => (if (!v35005) = true then (l_FnExactAddJob_j2 a0 a1 a2 a3 a4 a5 v14010 v19006 true) else (if (!decide (v19006.2.1 = v14010.2.1)) = true then (l_FnExactAddJob_j2 a0 a1 a2 a3 a4 a5 v14010 v19006 true) else (l_FnExactAddJob_j2 a0 a1 a2 a3 a4 a5 v14010 v19006 (!decide (v19006.2.2 = v14010.2.2))))))))))))))))))))))))
def l_FnExactAddJob (a0 : Queue) (a1 : List Net) (a2 : Net) (a3 : List Int) (a4 : Int) (a5 : Int) : Option (Bool) :=
 (if (decide (1048576 < ((List.length a3 : Nat) : Int))) = true then (some true) else (Option.bind (l_szQueue a0 1048576) fun v5002 => (if (decide (v5002 < 0)) = true then (some true) else (Option.bind (l_szNetS a1 v5002) fun v8002 => (if (decide (v8002 < 0)) = true then (some true) else (Option.bind (l_szNet a2 v8002) fun v11002 => (if (decide (v11002 < 0)) = true then (some true) else (Option.bind (l_toQueue a0) fun v14001 => (Option.bind (l_toNetS a1) fun v14003 => (Option.bind (l_toNet a2) fun v14005 => (Option.bind (l_toInt64S a3) fun v14007 => (Option.bind (s_AddJob v14001 v14003 v14005 v14007 a4 a5) fun v14010 => (Option.bind (l_toQueue a0) fun v15001 => (Option.bind (l_toNetS a1) fun v16001 => (Option.bind (l_toNet a2) fun v17001 => (Option.bind (l_toInt64S a3) fun v18001 => (Option.bind (i_AddJob v15001 v16001 v17001 v18001 a4 a5) fun v19006 => (Option.bind (l_eqQueue v19006.1 v14010.1) fun v20002 => (if (!v20002) = true then (l_FnExactAddJob_j1 a0 a1 a2 a3 a4 a5 v14010 v15001 v16001 v17001 v18001 v19006 true) else (if (!decide (v19006.2.1 = v14010.2.1)) = true then (l_FnExactAddJob_j1 a0 a1 a2 a3 a4 a5 v14010 v15001 v16001 v17001 v18001 v19006 true) else (l_FnExactAddJob_j1 a0 a1 a2 a3 a4 a5 v14010 v15001 v16001 v17001 v18001 v19006 (!decide (v19006.2.2 = v14010.2.2)))))))))))))))))))))))
end Go.Proofs.YtckcfdggbbabfaaGreat.Ab
