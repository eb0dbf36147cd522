/-
  Models of the functions. Printed by wip/ab/gen.py.
-/
import Derived.Test.YtckcfdggbbabfaaGreatModU
namespace Go.Proofs.YtckcfdggbbabfaaGreat.Ab
set_option linter.unusedVariables false
set_option linter.unusedSimpArgs false
set_option maxRecDepth 20000
set_option maxHeartbeats 4000000
open Go.RowKit
def s_l00Own (a0 : List Int) : Option ((List Int)) :=
 (Option.bind (app? [] a0) fun v2002 => (some v2002))
def s_l11OwnAgent (a0 : Agent) : Option (Agent) :=
 (Option.bind (s_l00Own a0.data) fun v2016 => (Option.bind (app? [] a0.ports) fun v2022 => (some (⟨a0.kind, a0.level, a0.value, v2016, v2022⟩ : Agent))))
def s_l11Own_l2 : Nat → Net → (List Agent) → Int → Option (Net)
 | 0, _, _, _ => none
 | n + 1, a0, p1_0, p1_1 => (if (decide (p1_1 < ((List.length a0.agents : Nat) : Int))) = true then (Option.bind (at? a0.agents p1_1) fun v6007 => (Option.bind (s_l11OwnAgent v6007) fun v6008 => (Option.bind (app? p1_0 [v6008]) fun v6010 => (s_l11Own_l2 n a0 v6010 (IntKind.i64.wrap (p1_1 + 1)))))) else (some (⟨p1_0⟩ : Net)))
def s_l11Own (a0 : Net) : Option (Net) :=
 (s_l11Own_l2 fuel a0 [] 0)
def s_l34OwnJob_l2 : Nat → Job → (List Int) → (List Int) → (List Net) → Int → Option (Job)
 | 0, _, _, _, _, _ => none
 | n + 1, a0, v3004, v4004, p1_0, p1_1 => (if (decide (p1_1 < ((List.length a0.book : Nat) : Int))) = true then (Option.bind (at? a0.book p1_1) fun v9007 => (Option.bind (s_l11Own v9007) fun v9008 => (Option.bind (app? p1_0 [v9008]) fun v9010 => (s_l34OwnJob_l2 n a0 v3004 v4004 v9010 (IntKind.i64.wrap (p1_1 + 1)))))) else (Option.bind (s_l11Own a0.net) fun v10003 => (some (⟨a0.id, a0.weight, a0.state, a0.code, a0.left, a0.slices, v3004, v4004, p1_0, v10003⟩ : Job))))
def s_l34OwnJob (a0 : Job) : Option (Job) :=
 (Option.bind (s_l00Own a0.counts) fun v3004 => (Option.bind (s_l00Own a0.schedule) fun v4004 => (s_l34OwnJob_l2 fuel a0 v3004 v4004 [] 0)))
def s_l34Own_l2 : Nat → Queue → (List Job) → Int → Option (Queue)
 | 0, _, _, _ => none
 | n + 1, a0, p1_0, p1_1 => (if (decide (p1_1 < ((List.length a0.jobs : Nat) : Int))) = true then (Option.bind (at? a0.jobs p1_1) fun v6007 => (Option.bind (s_l34OwnJob v6007) fun v6008 => (Option.bind (app? p1_0 [v6008]) fun v6010 => (s_l34Own_l2 n a0 v6010 (IntKind.i64.wrap (p1_1 + 1)))))) else (some (⟨a0.quantum, a0.nextId, a0.turn, p1_0⟩ : Queue)))
def s_l34Own (a0 : Queue) : Option (Queue) :=
 (s_l34Own_l2 fuel a0 [] 0)
def g_Clone_sint64 (a0 : List Int) : Option ((List Int)) :=
 (Option.bind (app? [] a0) fun v4002 => (some v4002))
def g_Clone_simpl_Port (a0 : List Port) : Option ((List Port)) :=
 (Option.bind (app? [] a0) fun v4002 => (some v4002))
def i_copyAgent (a0 : Agent) : Option (Agent) :=
 (Option.bind (g_Clone_sint64 a0.data) fun v2002 => (Option.bind (g_Clone_simpl_Port a0.ports) fun v2005 => (some (⟨a0.kind, a0.level, a0.value, v2002, v2005⟩ : Agent))))
def i_copyNet_l2 : Nat → Net → (List Agent) → Int → Option (Net)
 | 0, _, _, _ => none
 | n + 1, a0, p1_0, p1_1 => (if (decide (p1_1 < ((List.length a0.agents : Nat) : Int))) = true then (Option.bind (at? a0.agents p1_1) fun v5000 => (Option.bind (i_copyAgent v5000) fun v6003 => (Option.bind (app? p1_0 [v6003]) fun v6005 => (i_copyNet_l2 n a0 v6005 (IntKind.i64.wrap (p1_1 + 1)))))) else (some (⟨p1_0⟩ : Net)))
def i_copyNet (a0 : Net) : Option (Net) :=
 (Option.bind (rep? ((List.length a0.agents : Nat) : Int) (⟨0, 0, 0, [], []⟩ : Agent)) fun v2003 => (i_copyNet_l2 fuel a0 [] 0))
def i_copyNets_l1 : Nat → (List Net) → (List Net) → Int → Option ((List Net))
 | 0, _, _, _ => none
 | n + 1, a0, p0_0, p0_1 => (if (decide (p0_1 < ((List.length a0 : Nat) : Int))) = true then (Option.bind (at? a0 p0_1) fun v5000 => (Option.bind (i_copyNet v5000) fun v6002 => (Option.bind (app? p0_0 [v6002]) fun v6004 => (i_copyNets_l1 n a0 v6004 (IntKind.i64.wrap (p0_1 + 1)))))) else (some p0_0))
def i_copyNets (a0 : List Net) : Option ((List Net)) :=
 (i_copyNets_l1 fuel a0 [] 0)
def i_copyJob (a0 : Job) : Option (Job) :=
 (Option.bind (g_Clone_sint64 a0.counts) fun v2002 => (Option.bind (g_Clone_sint64 a0.schedule) fun v2005 => (Option.bind (i_copyNets a0.book) fun v2008 => (Option.bind (i_copyNet a0.net) fun v2011 => (some (⟨a0.id, a0.weight, a0.state, a0.code, a0.left, a0.slices, v2002, v2005, v2008, v2011⟩ : Job))))))
def i_copyQueue_l2 : Nat → Queue → (List Job) → Int → Option (Queue)
 | 0, _, _, _ => none
 | n + 1, a0, p1_0, p1_1 => (if (decide (p1_1 < ((List.length a0.jobs : Nat) : Int))) = true then (Option.bind (at? a0.jobs p1_1) fun v6000 => (Option.bind (i_copyJob v6000) fun v7003 => (Option.bind (app? p1_0 [v7003]) fun v7005 => (i_copyQueue_l2 n a0 v7005 (IntKind.i64.wrap (p1_1 + 1)))))) else (some (⟨a0.quantum, a0.nextId, a0.turn, p1_0⟩ : Queue)))
def i_copyQueue (a0 : Queue) : Option (Queue) :=
 (i_copyQueue_l2 fuel a0 [] 0)
def s_l34Find_l1 : Nat → Queue → Int → Int → Option (Int)
 | 0, _, _, _ => none
 | n + 1, a0, a1, p0_0 => (if (decide (p0_0 < ((List.length a0.jobs : Nat) : Int))) = true then (Option.bind (at? a0.jobs p0_0) fun v5005 => (if (decide (v5005.id = a1)) = true then (some p0_0) else (s_l34Find_l1 n a0 a1 (IntKind.i64.wrap (p0_0 + 1))))) else (some (-1)))
def s_l34Find (a0 : Queue) (a1 : Int) : Option (Int) :=
 (s_l34Find_l1 fuel a0 a1 0)
def s_l34Asked (a0 : Queue) (a1 : Int) : Option (Int × Int) :=
 (Option.bind (s_l34Ok a0) fun v2001 => (if (!v2001) = true then (some (0, 1)) else (Option.bind (s_l34Find a0 a1) fun v4002 => (if (decide (v4002 < 0)) = true then (some (0, 3)) else (some (v4002, 0))))))
def g_IndexFunc_simpl_Job_l1 : Nat → (List Job) → Int → (Job → Option Bool) → Option (Int)
 | 0, _, _, _ => none
 | n + 1, a0, p0_0, f1 => (if (decide (p0_0 < ((List.length a0 : Nat) : Int))) = true then (Option.bind (at? a0 p0_0) fun v5003 => (Option.bind (f1 v5003) fun v5005 => (if v5005 = true then (some p0_0) else (g_IndexFunc_simpl_Job_l1 n a0 (IntKind.i64.wrap (p0_0 + 1)) f1)))) else (some (-1)))
def g_IndexFunc_simpl_Job (a0 : List Job) (f1 : (Job → Option Bool)) : Option (Int) :=
 (g_IndexFunc_simpl_Job_l1 fuel a0 0 f1)
def i_Queue_place_1 (a0 : Job) (a1 : Int) : Option (Bool) :=
 (some (decide (a0.id = a1)))
def i_Queue_place (a0 : Queue) (a1 : Int) : Option (Int × Int) :=
 (Option.bind (g_IndexFunc_simpl_Job a0.jobs (fun y0 => i_Queue_place_1 y0 a1)) fun v2005 => (if (decide (v2005 < 0)) = true then (some (0, 3)) else (some (v2005, 0))))
def i_Queue_found (a0 : Queue) (a1 : Int) : Option (Int × Int) :=
 (Option.bind (i_ValidQueue a0) fun v2003 => (if (!v2003) = true then (some (0, 1)) else (Option.bind (i_Queue_place a0 a1) fun v4002 => (some (v4002.1, v4002.2)))))
end Go.Proofs.YtckcfdggbbabfaaGreat.Ab
