/-
  Models of the functions. Printed by wip/ab/gen.py.
-/
import Derived.Test.YtfbnlkaggggmiaaMTyQ
import Derived.Test.YtfbnlkaggggmiaaMod
namespace Go.Proofs.Ytfbnlkaggggmiaa.Ab
set_option linter.unusedVariables false
set_option linter.unusedSimpArgs false
set_option maxRecDepth 20000
set_option maxHeartbeats 4000000
open Go.RowKit

def l_eqPort (a0 : Port) (a1 : Port) : Option (Bool) :=
  (if (!decide (a0.agent = a1.agent)) = true then (some false) else (if (!decide (a0.slot = a1.slot)) = true then (some false) else (some true)))
def l_eqPortS_l1 : Nat → (List Port) → (List Port) → Int → Option (Bool)
  | 0, _, _, _ => none
  | n + 1, a0, a1, p0_0 => (if (decide (p0_0 < ((List.length a0 : Nat) : Int))) = true then (Option.bind (at? a0 p0_0) fun v6002 => (Option.bind (at? a1 p0_0) fun v6006 => (Option.bind (l_eqPort v6002 v6006) fun v6008 => (if (!v6008) = true then (some false) else (l_eqPortS_l1 n a0 a1 (IntKind.i64.wrap (p0_0 + 1))))))) else (some true))
def l_eqPortS (a0 : List Port) (a1 : List Port) : Option (Bool) :=
  (if (!decide (((List.length a0 : Nat) : Int) = ((List.length a1 : Nat) : Int))) = true then (some false) else (l_eqPortS_l1 fuel a0 a1 0))
def l_eqAgent (a0 : Agent) (a1 : Agent) : Option (Bool) :=
  (if (!decide (a0.kind = a1.kind)) = true then (some false) else (if (!decide (a0.level = a1.level)) = true then (some false) else (if (!decide (a0.value = a1.value)) = true then (some false) else (Option.bind (l_eqInt64S a0.data a1.data) fun v7004 => (if (!v7004) = true then (some false) else (Option.bind (l_eqPortS a0.ports a1.ports) fun v9004 => (if (!v9004) = true then (some false) else (some true))))))))
def l_eqAgentS_l1 : Nat → (List Agent) → (List Agent) → Int → Option (Bool)
  | 0, _, _, _ => none
  | n + 1, a0, a1, p0_0 => (if (decide (p0_0 < ((List.length a0 : Nat) : Int))) = true then (Option.bind (at? a0 p0_0) fun v6002 => (Option.bind (at? a1 p0_0) fun v6006 => (Option.bind (l_eqAgent v6002 v6006) fun v6008 => (if (!v6008) = true then (some false) else (l_eqAgentS_l1 n a0 a1 (IntKind.i64.wrap (p0_0 + 1))))))) else (some true))
def l_eqAgentS (a0 : List Agent) (a1 : List Agent) : Option (Bool) :=
  (if (!decide (((List.length a0 : Nat) : Int) = ((List.length a1 : Nat) : Int))) = true then (some false) else (l_eqAgentS_l1 fuel a0 a1 0))
def l_eqNet (a0 : Net) (a1 : Net) : Option (Bool) :=
  (Option.bind (l_eqAgentS a0.agents a1.agents) fun v1004 => (if (!v1004) = true then (some false) else (some true)))
def l_eqNetS_l1 : Nat → (List Net) → (List Net) → Int → Option (Bool)
  | 0, _, _, _ => none
  | n + 1, a0, a1, p0_0 => (if (decide (p0_0 < ((List.length a0 : Nat) : Int))) = true then (Option.bind (at? a0 p0_0) fun v6002 => (Option.bind (at? a1 p0_0) fun v6006 => (Option.bind (l_eqNet v6002 v6006) fun v6008 => (if (!v6008) = true then (some false) else (l_eqNetS_l1 n a0 a1 (IntKind.i64.wrap (p0_0 + 1))))))) else (some true))
def l_eqNetS (a0 : List Net) (a1 : List Net) : Option (Bool) :=
  (if (!decide (((List.length a0 : Nat) : Int) = ((List.length a1 : Nat) : Int))) = true then (some false) else (l_eqNetS_l1 fuel a0 a1 0))
def l_eqJob (a0 : Job) (a1 : Job) : Option (Bool) :=
  (if (!decide (a0.id = a1.id)) = true then (some false) else (if (!decide (a0.weight = a1.weight)) = true then (some false) else (if (!decide (a0.state = a1.state)) = true then (some false) else (if (!decide (a0.code = a1.code)) = true then (some false) else (if (!decide (a0.left = a1.left)) = true then (some false) else (if (!decide (a0.slices = a1.slices)) = true then (some false) else (Option.bind (l_eqInt64S a0.counts a1.counts) fun v13004 => (if (!v13004) = true then (some false) else (Option.bind (l_eqInt64S a0.schedule a1.schedule) fun v15004 => (if (!v15004) = true then (some false) else (Option.bind (l_eqNetS a0.book a1.book) fun v17004 => (if (!v17004) = true then (some false) else (Option.bind (l_eqNet a0.net a1.net) fun v19004 => (if (!v19004) = true then (some false) else (some true)))))))))))))))
def l_eqJobS_l1 : Nat → (List Job) → (List Job) → Int → Option (Bool)
  | 0, _, _, _ => none
  | n + 1, a0, a1, p0_0 => (if (decide (p0_0 < ((List.length a0 : Nat) : Int))) = true then (Option.bind (at? a0 p0_0) fun v6002 => (Option.bind (at? a1 p0_0) fun v6006 => (Option.bind (l_eqJob v6002 v6006) fun v6008 => (if (!v6008) = true then (some false) else (l_eqJobS_l1 n a0 a1 (IntKind.i64.wrap (p0_0 + 1))))))) else (some true))
def l_eqJobS (a0 : List Job) (a1 : List Job) : Option (Bool) :=
  (if (!decide (((List.length a0 : Nat) : Int) = ((List.length a1 : Nat) : Int))) = true then (some false) else (l_eqJobS_l1 fuel a0 a1 0))
def l_eqQueue (a0 : Queue) (a1 : Queue) : Option (Bool) :=
  (if (!decide (a0.quantum = a1.quantum)) = true then (some false) else (if (!decide (a0.nextId = a1.nextId)) = true then (some false) else (if (!decide (a0.turn = a1.turn)) = true then (some false) else (Option.bind (l_eqJobS a0.jobs a1.jobs) fun v7004 => (if (!v7004) = true then (some false) else (some true))))))
def l_szPortS (a0 : List Port) (a1 : Int) : Option (Int) :=
  (if (decide ((IntKind.i64.wrap (a1 - ((List.length a0 : Nat) : Int))) < 0)) = true then (some (-1)) else (some (IntKind.i64.wrap (a1 - ((List.length a0 : Nat) : Int)))))
def l_szAgent (a0 : Agent) (a1 : Int) : Option (Int) :=
  (Option.bind (l_szInt64S a0.data a1) fun v1003 => (if (decide (v1003 < 0)) = true then (some (-1)) else (Option.bind (l_szPortS a0.ports v1003) fun v4003 => (if (decide (v4003 < 0)) = true then (some (-1)) else (some v4003)))))
def l_szAgentS_l1 : Nat → (List Agent) → Int → Int → Option (Int)
  | 0, _, _, _ => none
  | n + 1, a0, p0_0, p0_1 => (if (decide (p0_1 < ((List.length a0 : Nat) : Int))) = true then (Option.bind (at? a0 p0_1) fun v7002 => (Option.bind (l_szAgent v7002 p0_0) fun v7005 => (if (decide (v7005 < 0)) = true then (some (-1)) else (l_szAgentS_l1 n a0 v7005 (IntKind.i64.wrap (p0_1 + 1)))))) else (some p0_0))
def l_szAgentS (a0 : List Agent) (a1 : Int) : Option (Int) :=
  (if (decide ((IntKind.i64.wrap (a1 - ((List.length a0 : Nat) : Int))) < 0)) = true then (some (-1)) else (l_szAgentS_l1 fuel a0 (IntKind.i64.wrap (a1 - ((List.length a0 : Nat) : Int))) 0))
def l_szNet (a0 : Net) (a1 : Int) : Option (Int) :=
  (Option.bind (l_szAgentS a0.agents a1) fun v1003 => (if (decide (v1003 < 0)) = true then (some (-1)) else (some v1003)))
def l_szNetS_l1 : Nat → (List Net) → Int → Int → Option (Int)
  | 0, _, _, _ => none
  | n + 1, a0, p0_0, p0_1 => (if (decide (p0_1 < ((List.length a0 : Nat) : Int))) = true then (Option.bind (at? a0 p0_1) fun v7002 => (Option.bind (l_szNet v7002 p0_0) fun v7005 => (if (decide (v7005 < 0)) = true then (some (-1)) else (l_szNetS_l1 n a0 v7005 (IntKind.i64.wrap (p0_1 + 1)))))) else (some p0_0))
def l_szNetS (a0 : List Net) (a1 : Int) : Option (Int) :=
  (if (decide ((IntKind.i64.wrap (a1 - ((List.length a0 : Nat) : Int))) < 0)) = true then (some (-1)) else (l_szNetS_l1 fuel a0 (IntKind.i64.wrap (a1 - ((List.length a0 : Nat) : Int))) 0))
def l_szJob (a0 : Job) (a1 : Int) : Option (Int) :=
  (Option.bind (l_szInt64S a0.counts a1) fun v1003 => (if (decide (v1003 < 0)) = true then (some (-1)) else (Option.bind (l_szInt64S a0.schedule v1003) fun v4003 => (if (decide (v4003 < 0)) = true then (some (-1)) else (Option.bind (l_szNetS a0.book v4003) fun v7003 => (if (decide (v7003 < 0)) = true then (some (-1)) else (Option.bind (l_szNet a0.net v7003) fun v10003 => (if (decide (v10003 < 0)) = true then (some (-1)) else (some v10003)))))))))
def l_szJobS_l1 : Nat → (List Job) → Int → Int → Option (Int)
  | 0, _, _, _ => none
  | n + 1, a0, p0_0, p0_1 => (if (decide (p0_1 < ((List.length a0 : Nat) : Int))) = true then (Option.bind (at? a0 p0_1) fun v7002 => (Option.bind (l_szJob v7002 p0_0) fun v7005 => (if (decide (v7005 < 0)) = true then (some (-1)) else (l_szJobS_l1 n a0 v7005 (IntKind.i64.wrap (p0_1 + 1)))))) else (some p0_0))
def l_szJobS (a0 : List Job) (a1 : Int) : Option (Int) :=
  (if (decide ((IntKind.i64.wrap (a1 - ((List.length a0 : Nat) : Int))) < 0)) = true then (some (-1)) else (l_szJobS_l1 fuel a0 (IntKind.i64.wrap (a1 - ((List.length a0 : Nat) : Int))) 0))
def l_szQueue (a0 : Queue) (a1 : Int) : Option (Int) :=
  (Option.bind (l_szJobS a0.jobs a1) fun v1003 => (if (decide (v1003 < 0)) = true then (some (-1)) else (some v1003)))
def s_l00Same_l1 : Nat → (List Int) → (List Int) → Int → Option (Bool)
  | 0, _, _, _ => none
  | n + 1, a0, a1, p0_0 => (if (decide (p0_0 < ((List.length a0 : Nat) : Int))) = true then (Option.bind (at? a0 p0_0) fun v6002 => (Option.bind (at? a1 p0_0) fun v6006 => (if (!decide (v6002 = v6006)) = true then (some false) else (s_l00Same_l1 n a0 a1 (IntKind.i64.wrap (p0_0 + 1)))))) else (some true))
def s_l00Same (a0 : List Int) (a1 : List Int) : Option (Bool) :=
  (if (!decide (((List.length a0 : Nat) : Int) = ((List.length a1 : Nat) : Int))) = true then (some false) else (s_l00Same_l1 fuel a0 a1 0))
def s_l11SameAgent_l2 : Nat → Agent → Agent → Int → Option (Bool)
  | 0, _, _, _ => none
  | n + 1, a0, a1, p1_0 => (if (decide (p1_0 < ((List.length a0.ports : Nat) : Int))) = true then (Option.bind (at? a0.ports p1_0) fun v6005 => (Option.bind (at? a1.ports p1_0) fun v6012 => (if (!(decide (v6005.agent = v6012.agent) && decide (v6005.slot = v6012.slot))) = true then (some false) else (s_l11SameAgent_l2 n a0 a1 (IntKind.i64.wrap (p1_0 + 1)))))) else (some true))
def s_l11SameAgent_j1 (a0 : Agent) (a1 : Agent) (p0_0 : Bool) : Option (Bool) :=
  (if p0_0 = true then (some false) else (s_l11SameAgent_l2 fuel a0 a1 0))
def s_l11SameAgent (a0 : Agent) (a1 : Agent) : Option (Bool) :=
  (if (!decide (a0.kind = a1.kind)) = true then (s_l11SameAgent_j1 a0 a1 true) else (if (!decide (a0.level = a1.level)) = true then (s_l11SameAgent_j1 a0 a1 true) else (if (!decide (a0.value = a1.value)) = true then (s_l11SameAgent_j1 a0 a1 true) else (Option.bind (s_l00Same a0.data a1.data) fun v1040 => (if (!v1040) = true then (s_l11SameAgent_j1 a0 a1 true) else (s_l11SameAgent_j1 a0 a1 (!decide (((List.length a0.ports : Nat) : Int) = ((List.length a1.ports : Nat) : Int)))))))))
def s_l11Same_l1 : Nat → Net → Net → Int → Option (Bool)
  | 0, _, _, _ => none
  | n + 1, a0, a1, p0_0 => (if (decide (p0_0 < ((List.length a0.agents : Nat) : Int))) = true then (Option.bind (at? a0.agents p0_0) fun v6005 => (Option.bind (at? a1.agents p0_0) fun v6011 => (Option.bind (s_l11SameAgent v6005 v6011) fun v6012 => (if (!v6012) = true then (some false) else (s_l11Same_l1 n a0 a1 (IntKind.i64.wrap (p0_0 + 1))))))) else (some true))
def s_l11Same (a0 : Net) (a1 : Net) : Option (Bool) :=
  (if (!decide (((List.length a0.agents : Nat) : Int) = ((List.length a1.agents : Nat) : Int))) = true then (some false) else (s_l11Same_l1 fuel a0 a1 0))
def s_l34SameNets_l1 : Nat → (List Net) → (List Net) → Int → Option (Bool)
  | 0, _, _, _ => none
  | n + 1, a0, a1, p0_0 => (if (decide (p0_0 < ((List.length a0 : Nat) : Int))) = true then (Option.bind (at? a0 p0_0) fun v6002 => (Option.bind (at? a1 p0_0) fun v6005 => (Option.bind (s_l11Same v6002 v6005) fun v6006 => (if (!v6006) = true then (some false) else (s_l34SameNets_l1 n a0 a1 (IntKind.i64.wrap (p0_0 + 1))))))) else (some true))
def s_l34SameNets (a0 : List Net) (a1 : List Net) : Option (Bool) :=
  (if (!decide (((List.length a0 : Nat) : Int) = ((List.length a1 : Nat) : Int))) = true then (some false) else (s_l34SameNets_l1 fuel a0 a1 0))
def s_l34SameJob (a0 : Job) (a1 : Job) : Option (Bool) :=
  (if (decide (a0.id = a1.id)) = true then (if (decide (a0.weight = a1.weight)) = true then (if (decide (a0.state = a1.state)) = true then (if (decide (a0.code = a1.code)) = true then (if (decide (a0.left = a1.left)) = true then (if (decide (a0.slices = a1.slices)) = true then (Option.bind (s_l00Same a0.counts a1.counts) fun v1073 => (if v1073 = true then (Option.bind (s_l00Same a0.schedule a1.schedule) fun v1084 => (if v1084 = true then (Option.bind (s_l34SameNets a0.book a1.book) fun v1095 => (if v1095 = true then (Option.bind (s_l11Same a0.net a1.net) fun v1104 => (some v1104)) else (some false))) else (some false))) else (some false))) else (some false)) else (some false)) else (some false)) else (some false)) else (some false)) else (some false))
def s_SameQueue_l3 : Nat → Queue → Queue → Int → Option (Bool)
  | 0, _, _, _ => none
  | n + 1, a0, a1, p2_0 => (if (decide (p2_0 < ((List.length a0.jobs : Nat) : Int))) = true then (Option.bind (at? a0.jobs p2_0) fun v6003 => (Option.bind (at? a1.jobs p2_0) fun v6007 => (Option.bind (s_l34SameJob v6003 v6007) fun v6008 => (if (!v6008) = true then (some false) else (s_SameQueue_l3 n a0 a1 (IntKind.i64.wrap (p2_0 + 1))))))) else (some true))
def s_SameQueue_j1 (a0 : Queue) (a1 : Queue) (p0_0 : Bool) : Option (Bool) :=
  (if p0_0 = true then (some false) else (s_SameQueue_l3 fuel a0 a1 0))
def s_SameQueue (a0 : Queue) (a1 : Queue) : Option (Bool) :=
  (if (!decide (a0.quantum = a1.quantum)) = true then (s_SameQueue_j1 a0 a1 true) else (if (!decide (a0.nextId = a1.nextId)) = true then (s_SameQueue_j1 a0 a1 true) else (if (!decide (a0.turn = a1.turn)) = true then (s_SameQueue_j1 a0 a1 true) else (s_SameQueue_j1 a0 a1 (!decide (((List.length a0.jobs : Nat) : Int) = ((List.length a1.jobs : Nat) : Int)))))))
def l_toPort (a0 : Port) : Option (Port) :=
  (some a0)
def l_toPortS_l2 : Nat → (List Port) → (List Port) → Int → Option ((List Port))
  | 0, _, _, _ => none
  | n + 1, a0, p1_0, p1_1 => (if (decide (p1_1 < ((List.length a0 : Nat) : Int))) = true then (Option.bind (at? a0 p1_1) fun v5004 => (Option.bind (l_toPort v5004) fun v5006 => (Option.bind (at? p1_0 p1_1) fun v5007 => (l_toPortS_l2 n a0 (set? p1_0 p1_1 v5006) (IntKind.i64.wrap (p1_1 + 1)))))) else (some p1_0))
def l_toPortS (a0 : List Port) : Option ((List Port)) :=
  (Option.bind (rep? ((List.length a0 : Nat) : Int) (⟨0, 0⟩ : Port)) fun v1002 => (l_toPortS_l2 fuel a0 v1002 0))
def l_toAgent (a0 : Agent) : Option (Agent) :=
  (Option.bind (l_toInt64S a0.data) fun v5002 => (Option.bind (l_toPortS a0.ports) fun v6002 => (some (⟨a0.kind, a0.level, a0.value, v5002, v6002⟩ : Agent))))
def l_toAgentS_l2 : Nat → (List Agent) → (List Agent) → Int → Option ((List Agent))
  | 0, _, _, _ => none
  | n + 1, a0, p1_0, p1_1 => (if (decide (p1_1 < ((List.length a0 : Nat) : Int))) = true then (Option.bind (at? a0 p1_1) fun v5004 => (Option.bind (l_toAgent v5004) fun v5006 => (Option.bind (at? p1_0 p1_1) fun v5007 => (l_toAgentS_l2 n a0 (set? p1_0 p1_1 v5006) (IntKind.i64.wrap (p1_1 + 1)))))) else (some p1_0))
def l_toAgentS (a0 : List Agent) : Option ((List Agent)) :=
  (Option.bind (rep? ((List.length a0 : Nat) : Int) (⟨0, 0, 0, [], []⟩ : Agent)) fun v1002 => (l_toAgentS_l2 fuel a0 v1002 0))
def l_toNet (a0 : Net) : Option (Net) :=
  (Option.bind (l_toAgentS a0.agents) fun v2002 => (some (⟨v2002⟩ : Net)))
def l_toNetS_l2 : Nat → (List Net) → (List Net) → Int → Option ((List Net))
  | 0, _, _, _ => none
  | n + 1, a0, p1_0, p1_1 => (if (decide (p1_1 < ((List.length a0 : Nat) : Int))) = true then (Option.bind (at? a0 p1_1) fun v5004 => (Option.bind (l_toNet v5004) fun v5006 => (Option.bind (at? p1_0 p1_1) fun v5007 => (l_toNetS_l2 n a0 (set? p1_0 p1_1 v5006) (IntKind.i64.wrap (p1_1 + 1)))))) else (some p1_0))
def l_toNetS (a0 : List Net) : Option ((List Net)) :=
  (Option.bind (rep? ((List.length a0 : Nat) : Int) (⟨[]⟩ : Net)) fun v1002 => (l_toNetS_l2 fuel a0 v1002 0))
def l_toJob (a0 : Job) : Option (Job) :=
  (Option.bind (l_toInt64S a0.counts) fun v8002 => (Option.bind (l_toInt64S a0.schedule) fun v9002 => (Option.bind (l_toNetS a0.book) fun v10002 => (Option.bind (l_toNet a0.net) fun v11002 => (some (⟨a0.id, a0.weight, a0.state, a0.code, a0.left, a0.slices, v8002, v9002, v10002, v11002⟩ : Job))))))
def l_toJobS_l2 : Nat → (List Job) → (List Job) → Int → Option ((List Job))
  | 0, _, _, _ => none
  | n + 1, a0, p1_0, p1_1 => (if (decide (p1_1 < ((List.length a0 : Nat) : Int))) = true then (Option.bind (at? a0 p1_1) fun v5004 => (Option.bind (l_toJob v5004) fun v5006 => (Option.bind (at? p1_0 p1_1) fun v5007 => (l_toJobS_l2 n a0 (set? p1_0 p1_1 v5006) (IntKind.i64.wrap (p1_1 + 1)))))) else (some p1_0))
def l_toJobS (a0 : List Job) : Option ((List Job)) :=
  (Option.bind (rep? ((List.length a0 : Nat) : Int) (⟨0, 0, 0, 0, 0, 0, [], [], [], (⟨[]⟩ : Net)⟩ : Job)) fun v1002 => (l_toJobS_l2 fuel a0 v1002 0))
def l_toQueue (a0 : Queue) : Option (Queue) :=
  (Option.bind (l_toJobS a0.jobs) fun v5002 => (some (⟨a0.quantum, a0.nextId, a0.turn, v5002⟩ : Queue)))
def g_EqualFunc_simpl_Job_l1 : Nat → (List Job) → (List Job) → Int → (Job → Job → Option Bool) → Option (Bool)
  | 0, _, _, _, _ => none
  | n + 1, a0, a1, p0_0, f2 => (if (decide (p0_0 < ((List.length a0 : Nat) : Int))) = true then (Option.bind (at? a0 p0_0) fun v5001 => (Option.bind (at? a1 p0_0) fun v6002 => (Option.bind (f2 v5001 v6002) fun v7003 => (if (!v7003) = true then (some false) else (g_EqualFunc_simpl_Job_l1 n a0 a1 (IntKind.i64.wrap (p0_0 + 1)) f2))))) else (some true))
def g_EqualFunc_simpl_Job (a0 : List Job) (a1 : List Job) (f2 : (Job → Job → Option Bool)) : Option (Bool) :=
  (if (!decide (((List.length a0 : Nat) : Int) = ((List.length a1 : Nat) : Int))) = true then (some false) else (g_EqualFunc_simpl_Job_l1 fuel a0 a1 0 f2))
def g_Equal_sint64_l1 : Nat → (List Int) → (List Int) → Int → Option (Bool)
  | 0, _, _, _ => none
  | n + 1, a0, a1, p0_0 => (if (decide (p0_0 < ((List.length a0 : Nat) : Int))) = true then (Option.bind (at? a0 p0_0) fun v6002 => (Option.bind (at? a1 p0_0) fun v6006 => (if (!decide (v6002 = v6006)) = true then (some false) else (g_Equal_sint64_l1 n a0 a1 (IntKind.i64.wrap (p0_0 + 1)))))) else (some true))
def g_Equal_sint64 (a0 : List Int) (a1 : List Int) : Option (Bool) :=
  (if (!decide (((List.length a0 : Nat) : Int) = ((List.length a1 : Nat) : Int))) = true then (some false) else (g_Equal_sint64_l1 fuel a0 a1 0))
def g_EqualFunc_simpl_Net_l1 : Nat → (List Net) → (List Net) → Int → (Net → Net → Option Bool) → Option (Bool)
  | 0, _, _, _, _ => none
  | n + 1, a0, a1, p0_0, f2 => (if (decide (p0_0 < ((List.length a0 : Nat) : Int))) = true then (Option.bind (at? a0 p0_0) fun v5001 => (Option.bind (at? a1 p0_0) fun v6002 => (Option.bind (f2 v5001 v6002) fun v7003 => (if (!v7003) = true then (some false) else (g_EqualFunc_simpl_Net_l1 n a0 a1 (IntKind.i64.wrap (p0_0 + 1)) f2))))) else (some true))
def g_EqualFunc_simpl_Net (a0 : List Net) (a1 : List Net) (f2 : (Net → Net → Option Bool)) : Option (Bool) :=
  (if (!decide (((List.length a0 : Nat) : Int) = ((List.length a1 : Nat) : Int))) = true then (some false) else (g_EqualFunc_simpl_Net_l1 fuel a0 a1 0 f2))
def g_EqualFunc_simpl_Agent_l1 : Nat → (List Agent) → (List Agent) → Int → (Agent → Agent → Option Bool) → Option (Bool)
  | 0, _, _, _, _ => none
  | n + 1, a0, a1, p0_0, f2 => (if (decide (p0_0 < ((List.length a0 : Nat) : Int))) = true then (Option.bind (at? a0 p0_0) fun v5001 => (Option.bind (at? a1 p0_0) fun v6002 => (Option.bind (f2 v5001 v6002) fun v7003 => (if (!v7003) = true then (some false) else (g_EqualFunc_simpl_Agent_l1 n a0 a1 (IntKind.i64.wrap (p0_0 + 1)) f2))))) else (some true))
def g_EqualFunc_simpl_Agent (a0 : List Agent) (a1 : List Agent) (f2 : (Agent → Agent → Option Bool)) : Option (Bool) :=
  (if (!decide (((List.length a0 : Nat) : Int) = ((List.length a1 : Nat) : Int))) = true then (some false) else (g_EqualFunc_simpl_Agent_l1 fuel a0 a1 0 f2))
def g_Equal_simpl_Port_l1 : Nat → (List Port) → (List Port) → Int → Option (Bool)
  | 0, _, _, _ => none
  | n + 1, a0, a1, p0_0 => (if (decide (p0_0 < ((List.length a0 : Nat) : Int))) = true then (Option.bind (at? a0 p0_0) fun v6002 => (Option.bind (at? a1 p0_0) fun v6006 => (if (!(decide (v6002.agent = v6006.agent) && decide (v6002.slot = v6006.slot))) = true then (some false) else (g_Equal_simpl_Port_l1 n a0 a1 (IntKind.i64.wrap (p0_0 + 1)))))) else (some true))
def g_Equal_simpl_Port (a0 : List Port) (a1 : List Port) : Option (Bool) :=
  (if (!decide (((List.length a0 : Nat) : Int) = ((List.length a1 : Nat) : Int))) = true then (some false) else (g_Equal_simpl_Port_l1 fuel a0 a1 0))
def i_sameAgent (a0 : Agent) (a1 : Agent) : Option (Bool) :=
  (if (decide (a0.kind = a1.kind)) = true then (if (decide (a0.level = a1.level)) = true then (if (decide (a0.value = a1.value)) = true then (Option.bind (g_Equal_sint64 a0.data a1.data) fun v1024 => (if v1024 = true then (Option.bind (g_Equal_simpl_Port a0.ports a1.ports) fun v1031 => (some v1031)) else (some false))) else (some false)) else (some false)) else (some false))
def i_SameNet (a0 : Net) (a1 : Net) : Option (Bool) :=
  (Option.bind (g_EqualFunc_simpl_Agent a0.agents a1.agents (fun y0 y1 => i_sameAgent y0 y1)) fun v1004 => (some v1004))
def i_sameJob (a0 : Job) (a1 : Job) : Option (Bool) :=
  (if (decide (a0.id = a1.id)) = true then (if (decide (a0.weight = a1.weight)) = true then (if (decide (a0.state = a1.state)) = true then (if (decide (a0.code = a1.code)) = true then (if (decide (a0.left = a1.left)) = true then (if (decide (a0.slices = a1.slices)) = true then (Option.bind (g_Equal_sint64 a0.counts a1.counts) fun v1045 => (if v1045 = true then (Option.bind (g_Equal_sint64 a0.schedule a1.schedule) fun v1052 => (if v1052 = true then (Option.bind (g_EqualFunc_simpl_Net a0.book a1.book (fun y0 y1 => i_SameNet y0 y1)) fun v1059 => (if v1059 = true then (Option.bind (i_SameNet a0.net a1.net) fun v1066 => (some v1066)) else (some false))) else (some false))) else (some false))) else (some false)) else (some false)) else (some false)) else (some false)) else (some false)) else (some false))
def i_SameQueue (a0 : Queue) (a1 : Queue) : Option (Bool) :=
  (if (decide (a0.quantum = a1.quantum)) = true then (if (decide (a0.nextId = a1.nextId)) = true then (if (decide (a0.turn = a1.turn)) = true then (Option.bind (g_EqualFunc_simpl_Job a0.jobs a1.jobs (fun y0 y1 => i_sameJob y0 y1)) fun v1024 => (some v1024)) else (some false)) else (some false)) else (some false))
def l_FnExactSameQueue (a0 : Queue) (a1 : Queue) : Option (Bool) :=
  (Option.bind (l_szQueue a0 1048576) fun v2002 => (if (decide (v2002 < 0)) = true then (some true) else (Option.bind (l_szQueue a1 v2002) fun v5002 => (if (decide (v5002 < 0)) = true then (some true) else (Option.bind (l_toQueue a0) fun v8001 => (Option.bind (l_toQueue a1) fun v8003 => (Option.bind (s_SameQueue v8001 v8003) fun v8004 => (Option.bind (l_toQueue a0) fun v9001 => (Option.bind (l_toQueue a1) fun v10001 => (Option.bind (i_SameQueue v9001 v10001) fun v11002 => (if (!(v11002 == v8004)) = true then (some false) else (Option.bind (l_toQueue a0) fun v14002 => (Option.bind (l_eqQueue v9001 v14002) fun v14003 => (if (!v14003) = true then (some false) else (Option.bind (l_toQueue a1) fun v16002 => (Option.bind (l_eqQueue v10001 v16002) fun v16003 => (if (!v16003) = true then (some false) else (some true))))))))))))))))))
end Go.Proofs.Ytfbnlkaggggmiaa.Ab
