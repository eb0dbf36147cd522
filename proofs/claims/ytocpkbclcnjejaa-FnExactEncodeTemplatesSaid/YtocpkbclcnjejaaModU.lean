/-
  Models of the functions. Printed by wip/ab/gen.py.
-/
import Derived.Test.YtocpkbclcnjejaaMTyU
import Derived.Test.YtocpkbclcnjejaaMod
namespace Go.Proofs.Ytocpkbclcnjejaa.Ab
set_option linter.unusedVariables false
set_option linter.unusedSimpArgs false
set_option maxRecDepth 20000
set_option maxHeartbeats 4000000
open Go.RowKit

def s_l00In (a0 : Int) (a1 : Int) (a2 : Int) : Option (Bool) :=
  (if (decide (a1 ≤ a0)) = true then (some (decide (a0 ≤ a2))) else (some false))
def s_PortsOf_j3 (p2_0 : Bool) : Option (Int) :=
  (if p2_0 = true then (some 3) else (some 0))
def s_PortsOf_j2 (a0 : Int) (p1_0 : Bool) : Option (Int) :=
  (if p1_0 = true then (some 2) else (if (decide (a0 = 2)) = true then (s_PortsOf_j3 (decide (a0 = 2))) else (if (decide (a0 = 3)) = true then (s_PortsOf_j3 (decide (a0 = 3))) else (if (decide (a0 = 4)) = true then (s_PortsOf_j3 (decide (a0 = 4))) else (s_PortsOf_j3 (decide (a0 = 7)))))))
def s_PortsOf_j1 (a0 : Int) (p0_0 : Bool) : Option (Int) :=
  (if p0_0 = true then (some 1) else (if (decide (a0 = 8)) = true then (s_PortsOf_j2 a0 (decide (a0 = 8))) else (if (decide (a0 = 10)) = true then (s_PortsOf_j2 a0 (decide (a0 = 10))) else (s_PortsOf_j2 a0 (decide (a0 = 11))))))
def s_PortsOf (a0 : Int) (a1 : Int) : Option (Int) :=
  (if (decide (a0 = 9)) = true then (Option.bind (s_l00In a1 0 3) fun v3001 => (if v3001 = true then (some (IntKind.i64.wrap (1 + a1))) else (some 0))) else (if (!decide (a1 = 0)) = true then (some 0) else (if (decide (a0 = 1)) = true then (s_PortsOf_j1 a0 (decide (a0 = 1))) else (if (decide (a0 = 5)) = true then (s_PortsOf_j1 a0 (decide (a0 = 5))) else (if (decide (a0 = 6)) = true then (s_PortsOf_j1 a0 (decide (a0 = 6))) else (s_PortsOf_j1 a0 (decide (a0 = 12))))))))
def s_l11Fields (a0 : Agent) : Option (Int) :=
  (if (decide (a0.kind = 9)) = true then (some (IntKind.i64.wrap (((List.length a0.ports : Nat) : Int) - 1))) else (some 0))
def s_HasLevel_j1 (p0_0 : Bool) : Option (Bool) :=
  (if p0_0 = true then (some true) else (some false))
def s_HasLevel (a0 : Int) : Option (Bool) :=
  (if (decide (a0 = 2)) = true then (s_HasLevel_j1 (decide (a0 = 2))) else (if (decide (a0 = 3)) = true then (s_HasLevel_j1 (decide (a0 = 3))) else (if (decide (a0 = 4)) = true then (s_HasLevel_j1 (decide (a0 = 4))) else (if (decide (a0 = 7)) = true then (s_HasLevel_j1 (decide (a0 = 7))) else (if (decide (a0 = 8)) = true then (s_HasLevel_j1 (decide (a0 = 8))) else (if (decide (a0 = 9)) = true then (s_HasLevel_j1 (decide (a0 = 9))) else (if (decide (a0 = 10)) = true then (s_HasLevel_j1 (decide (a0 = 10))) else (if (decide (a0 = 11)) = true then (s_HasLevel_j1 (decide (a0 = 11))) else (s_HasLevel_j1 (decide (a0 = 12)))))))))))
def s_l10Kind (a0 : Int) : Option (Bool) :=
  (Option.bind (s_l00In a0 1 12) fun v2001 => (some v2001))
def s_l10Level (a0 : Int) (a1 : Int) : Option (Bool) :=
  (Option.bind (s_HasLevel a0) fun v2001 => (if v2001 = true then (Option.bind (s_l00In a1 0 8) fun v3001 => (some v3001)) else (Option.bind (s_l10Kind a0) fun v4001 => (if v4001 = true then (some (decide (a1 = 0))) else (some false)))))
def s_l11Def (a0 : Int) : Option (Bool) :=
  (Option.bind (s_l00In a0 0 23) fun v2001 => (some v2001))
def s_l11Content_l3 : Nat → Agent → Int → Option (Bool)
  | 0, _, _ => none
  | n + 1, a0, p2_0 => (if (decide (p2_0 < ((List.length a0.data : Nat) : Int))) = true then (Option.bind (at? a0.data p2_0) fun v20005 => (Option.bind (s_l11Def v20005) fun v20007 => (if (!v20007) = true then (some false) else (s_l11Content_l3 n a0 (IntKind.i64.wrap (p2_0 + 1)))))) else (some true))
def s_l11Content_j2 (a0 : Agent) (p1_0 : Bool) : Option (Bool) :=
  (if p1_0 = true then (some false) else (s_l11Content_l3 fuel a0 0))
def s_l11Content_j1 (a0 : Agent) (p0_0 : Bool) : Option (Bool) :=
  (if p0_0 = true then (if (!decide (a0.value = 0)) = true then (s_l11Content_j2 a0 true) else (if (decide (a0.kind = 11)) = true then (if (!decide (((List.length a0.data : Nat) : Int) = 2)) = true then (s_l11Content_j2 a0 true) else (if (decide (a0.kind = 10)) = true then (Option.bind (s_l00In ((List.length a0.data : Nat) : Int) 1 4) fun v15032 => (s_l11Content_j2 a0 (!v15032))) else (s_l11Content_j2 a0 false))) else (if (decide (a0.kind = 10)) = true then (Option.bind (s_l00In ((List.length a0.data : Nat) : Int) 1 4) fun v15032 => (s_l11Content_j2 a0 (!v15032))) else (s_l11Content_j2 a0 false)))) else (if (decide (a0.value = 0)) = true then (some (decide (((List.length a0.data : Nat) : Int) = 0))) else (some false)))
def s_l11Content (a0 : Agent) : Option (Bool) :=
  (if (decide (a0.kind = 6)) = true then (if (decide (((List.length a0.data : Nat) : Int) = 0)) = true then (Option.bind (s_l00In a0.value (-2147483648) 2147483647) fun v4011 => (some v4011)) else (some false)) else (if (decide (a0.kind = 7)) = true then (if (decide (((List.length a0.data : Nat) : Int) = 0)) = true then (Option.bind (s_l00In a0.value 1 6) fun v6011 => (some v6011)) else (some false)) else (if (decide (a0.kind = 8)) = true then (if (decide (((List.length a0.data : Nat) : Int) = 1)) = true then (Option.bind (s_l00In a0.value 1 6) fun v8011 => (if v8011 = true then (Option.bind (at? a0.data 0) fun v8018 => (Option.bind (s_l00In v8018 (-2147483648) 2147483647) fun v8020 => (some v8020))) else (some false))) else (some false)) else (if (decide (a0.kind = 9)) = true then (if (decide (((List.length a0.data : Nat) : Int) = 0)) = true then (Option.bind (s_l00In a0.value 0 3) fun v10011 => (some v10011)) else (some false)) else (if (decide (a0.kind = 12)) = true then (if (decide (((List.length a0.data : Nat) : Int) = 0)) = true then (Option.bind (s_l11Def a0.value) fun v12011 => (some v12011)) else (some false)) else (if (decide (a0.kind = 10)) = true then (s_l11Content_j1 a0 (decide (a0.kind = 10))) else (s_l11Content_j1 a0 (decide (a0.kind = 11)))))))))
def s_l11Agent (a0 : Agent) : Option (Bool) :=
  (Option.bind (s_l11Fields a0) fun v2005 => (Option.bind (s_PortsOf a0.kind v2005) fun v2006 => (if (decide (0 < v2006)) = true then (if (decide (((List.length a0.ports : Nat) : Int) = v2006)) = true then (Option.bind (s_l10Level a0.kind a0.level) fun v3020 => (if v3020 = true then (Option.bind (s_l11Content a0) fun v3024 => (some v3024)) else (some false))) else (some false)) else (some false))))
mutual
def s_l11Agents_l3 : Nat → (List Agent) → Int → Option (Bool)
  | 0, _, _ => none
  | n + 1, a0, p0_0 => (if (decide (p0_0 < ((List.length a0 : Nat) : Int))) = true then (Option.bind (at? a0 p0_0) fun v7002 => (Option.bind (s_l11Agent v7002) fun v7003 => (if (!v7003) = true then (s_l11Agents_j4 n a0 p0_0 true) else (Option.bind (at? a0 p0_0) fun v7008 => (s_l11Agents_j4 n a0 p0_0 (!((decide (v7008.kind = 1)) == (decide (p0_0 = 0))))))))) else (some true))
def s_l11Agents_j4 : Nat → (List Agent) → Int → Bool → Option (Bool)
  | 0, _, _, _ => none
  | n + 1, a0, p0_0, p1_0 => (if p1_0 = true then (some false) else (s_l11Agents_l3 n a0 (IntKind.i64.wrap (p0_0 + 1))))
end
def s_l11Agents (a0 : List Agent) : Option (Bool) :=
  (Option.bind (s_l00In ((List.length a0 : Nat) : Int) 1 600) fun v2002 => (if (!v2002) = true then (some false) else (s_l11Agents_l3 fuel a0 0)))
def s_l11Port (a0 : List Agent) (a1 : Port) : Option (Bool) :=
  (Option.bind (s_l00In a1.agent 0 (IntKind.i64.wrap (((List.length a0 : Nat) : Int) - 1))) fun v2005 => (if v2005 = true then (Option.bind (at? a0 a1.agent) fun v2012 => (Option.bind (s_l00In a1.slot 0 (IntKind.i64.wrap (((List.length v2012.ports : Nat) : Int) - 1))) fun v2017 => (some v2017))) else (some false)))
mutual
def s_l11Ok_l9 : Nat → Net → Int → Option (Bool)
  | 0, _, _ => none
  | n + 1, a0, p0_0 => (if (decide (p0_0 < ((List.length a0.agents : Nat) : Int))) = true then (Option.bind (at? a0.agents p0_0) fun v7005 => (s_l11Ok_l12 n a0 p0_0 v7005 0)) else (some true))
def s_l11Ok_l12 : Nat → Net → Int → Agent → Int → Option (Bool)
  | 0, _, _, _, _ => none
  | n + 1, a0, p0_0, v7005, p1_0 => (if (decide (p1_0 < ((List.length v7005.ports : Nat) : Int))) = true then (Option.bind (at? v7005.ports p1_0) fun v12005 => (if (decide (v12005.agent = p0_0) && decide (v12005.slot = p1_0)) = true then (s_l11Ok_j13 n a0 p0_0 p1_0 v7005 true) else (Option.bind (s_l11Port a0.agents v12005) fun v13009 => (if (!v13009) = true then (s_l11Ok_j13 n a0 p0_0 p1_0 v7005 true) else (Option.bind (at? a0.agents v12005.agent) fun v13019 => (Option.bind (at? v13019.ports v12005.slot) fun v13024 => (s_l11Ok_j13 n a0 p0_0 p1_0 v7005 (!(decide (v13024.agent = p0_0) && decide (v13024.slot = p1_0)))))))))) else (s_l11Ok_l9 n a0 (IntKind.i64.wrap (p0_0 + 1))))
def s_l11Ok_j13 : Nat → Net → Int → Int → Agent → Bool → Option (Bool)
  | 0, _, _, _, _, _ => none
  | n + 1, a0, p0_0, p1_0, v7005, p2_0 => (if p2_0 = true then (some false) else (s_l11Ok_l12 n a0 p0_0 v7005 (IntKind.i64.wrap (p1_0 + 1))))
end
def s_l11Ok (a0 : Net) : Option (Bool) :=
  (Option.bind (s_l11Agents a0.agents) fun v2004 => (if (!v2004) = true then (some false) else (s_l11Ok_l9 fuel a0 0)))
def g_IndexFunc_sint64_l1 : Nat → (List Int) → Int → (Int → Option Bool) → Option (Int)
  | 0, _, _, _ => none
  | n + 1, a0, p0_0, f1 => (if (decide (p0_0 < ((List.length a0 : Nat) : Int))) = true then (Option.bind (at? a0 p0_0) fun v5003 => (Option.bind (f1 v5003) fun v5005 => (if v5005 = true then (some p0_0) else (g_IndexFunc_sint64_l1 n a0 (IntKind.i64.wrap (p0_0 + 1)) f1)))) else (some (-1)))
def g_IndexFunc_sint64 (a0 : List Int) (f1 : (Int → Option Bool)) : Option (Int) :=
  (g_IndexFunc_sint64_l1 fuel a0 0 f1)
def g_ContainsFunc_sint64 (a0 : List Int) (f1 : (Int → Option Bool)) : Option (Bool) :=
  (Option.bind (g_IndexFunc_sint64 a0 f1) fun v2002 => (some (decide (0 ≤ v2002))))
def i_isKind (a0 : Int) : Option (Bool) :=
  (if (decide (1 ≤ a0)) = true then (some (decide (a0 ≤ 12))) else (some false))
def i_PortsOf_j2 (a0 : Int) (p1_0 : Bool) : Option (Int) :=
  (if p1_0 = true then (some 0) else (Option.bind (atI [0, 1, 3, 3, 3, 1, 1, 3, 2, 0, 2, 2, 1] a0) fun v6002 => (some v6002)))
def i_PortsOf_j1 (a0 : Int) (a1 : Int) (p0_0 : Bool) : Option (Int) :=
  (if p0_0 = true then (some (IntKind.i64.wrap (a1 + 1))) else (Option.bind (i_isKind a0) fun v4001 => (if (!v4001) = true then (i_PortsOf_j2 a0 true) else (if (decide (a0 = 9)) = true then (i_PortsOf_j2 a0 true) else (i_PortsOf_j2 a0 (!decide (a1 = 0)))))))
def i_PortsOf (a0 : Int) (a1 : Int) : Option (Int) :=
  (if (decide (a0 = 9)) = true then (if (decide (0 ≤ a1)) = true then (i_PortsOf_j1 a0 a1 (decide (a1 ≤ 3))) else (i_PortsOf_j1 a0 a1 false)) else (i_PortsOf_j1 a0 a1 false))
def i_fieldsOf (a0 : Int) (a1 : Int) : Option (Int) :=
  (if (decide (a0 = 9)) = true then (some (IntKind.i64.wrap (a1 - 1))) else (some 0))
def i_HasLevel (a0 : Int) : Option (Bool) :=
  (Option.bind (i_isKind a0) fun v2001 => (if v2001 = true then (if (!decide (a0 = 1)) = true then (if (!decide (a0 = 5)) = true then (some (!decide (a0 = 6))) else (some false)) else (some false)) else (some false)))
def i_isLevel (a0 : Int) : Option (Bool) :=
  (if (decide (0 ≤ a0)) = true then (some (decide (a0 ≤ 8))) else (some false))
def i_isAllowed (a0 : Int) (a1 : Int) : Option (Bool) :=
  (Option.bind (i_isKind a0) fun v2001 => (if v2001 = true then (if (decide (a1 = 0)) = true then (some true) else (Option.bind (i_HasLevel a0) fun v2007 => (if v2007 = true then (Option.bind (i_isLevel a1) fun v2010 => (some v2010)) else (some false)))) else (some false)))
def i_isDefIndex (a0 : Int) : Option (Bool) :=
  (if (decide (0 ≤ a0)) = true then (some (decide (a0 < 24))) else (some false))
def i_wellFormed_1 (a0 : Int) : Option (Bool) :=
  (Option.bind (i_isDefIndex a0) fun v2001 => (some (!v2001)))
def i_isInt (a0 : Int) : Option (Bool) :=
  (if (decide ((-2147483648) ≤ a0)) = true then (some (decide (a0 ≤ 2147483647))) else (some false))
def i_isOperator (a0 : Int) : Option (Bool) :=
  (if (decide (1 ≤ a0)) = true then (some (decide (a0 ≤ 6))) else (some false))
def i_wellFormed_j2 (p1_0 : Bool) (p1_1 : Bool) : Option (Bool) :=
  (if p1_0 = true then (some p1_1) else (some false))
def i_wellFormed_j1 (a0 : Agent) (p0_0 : Bool) : Option (Bool) :=
  (if p0_0 = true then (some false) else (Option.bind (g_ContainsFunc_sint64 a0.data (fun y0 => i_wellFormed_1 y0)) fun v5002 => (if (decide (a0.kind = 6)) = true then (Option.bind (i_isInt a0.value) fun v8002 => (i_wellFormed_j2 v8002 (decide (((List.length a0.data : Nat) : Int) = 0)))) else (if (decide (a0.kind = 7)) = true then (Option.bind (i_isOperator a0.value) fun v10002 => (i_wellFormed_j2 v10002 (decide (((List.length a0.data : Nat) : Int) = 0)))) else (if (decide (a0.kind = 8)) = true then (Option.bind (i_isOperator a0.value) fun v12002 => (if v12002 = true then (if (decide (((List.length a0.data : Nat) : Int) = 1)) = true then (Option.bind (at? a0.data 0) fun v12012 => (Option.bind (i_isInt v12012) fun v12014 => (some v12014))) else (some false)) else (some false))) else (if (decide (a0.kind = 9)) = true then (if (decide (0 ≤ a0.value)) = true then (i_wellFormed_j2 (decide (a0.value < 4)) (decide (((List.length a0.data : Nat) : Int) = 0))) else (i_wellFormed_j2 false (decide (((List.length a0.data : Nat) : Int) = 0)))) else (if (decide (a0.kind = 10)) = true then (if (decide (1 ≤ ((List.length a0.data : Nat) : Int))) = true then (if (decide (((List.length a0.data : Nat) : Int) ≤ 4)) = true then (i_wellFormed_j2 (decide (a0.value = 0)) (!v5002)) else (i_wellFormed_j2 (decide (a0.value = 0)) false)) else (i_wellFormed_j2 (decide (a0.value = 0)) false)) else (if (decide (a0.kind = 11)) = true then (if (decide (((List.length a0.data : Nat) : Int) = 2)) = true then (i_wellFormed_j2 (decide (a0.value = 0)) (!v5002)) else (i_wellFormed_j2 (decide (a0.value = 0)) false)) else (if (decide (a0.kind = 12)) = true then (Option.bind (i_isDefIndex a0.value) fun v20002 => (i_wellFormed_j2 v20002 (decide (((List.length a0.data : Nat) : Int) = 0)))) else (i_wellFormed_j2 (decide (a0.value = 0)) (decide (((List.length a0.data : Nat) : Int) = 0))))))))))))
def i_wellFormed (a0 : Agent) : Option (Bool) :=
  (if (decide (((List.length a0.ports : Nat) : Int) = 0)) = true then (i_wellFormed_j1 a0 true) else (Option.bind (i_fieldsOf a0.kind ((List.length a0.ports : Nat) : Int)) fun v2012 => (Option.bind (i_PortsOf a0.kind v2012) fun v2013 => (if (!decide (v2013 = ((List.length a0.ports : Nat) : Int))) = true then (i_wellFormed_j1 a0 true) else (Option.bind (i_isAllowed a0.kind a0.level) fun v2024 => (i_wellFormed_j1 a0 (!v2024)))))))
mutual
def i_areAgents_l4 : Nat → (List Agent) → Int → Option (Bool)
  | 0, _, _ => none
  | n + 1, a0, p1_0 => (if (decide (p1_0 < ((List.length a0 : Nat) : Int))) = true then (Option.bind (at? a0 p1_0) fun v6001 => (Option.bind (i_wellFormed v6001) fun v7001 => (if (!v7001) = true then (i_areAgents_j5 n a0 p1_0 true) else (i_areAgents_j5 n a0 p1_0 (!((decide (v6001.kind = 1)) == (decide (p1_0 = 0)))))))) else (some true))
def i_areAgents_j5 : Nat → (List Agent) → Int → Bool → Option (Bool)
  | 0, _, _, _ => none
  | n + 1, a0, p1_0, p2_0 => (if p2_0 = true then (some false) else (i_areAgents_l4 n a0 (IntKind.i64.wrap (p1_0 + 1))))
end
def i_areAgents_j1 (a0 : List Agent) (p0_0 : Bool) : Option (Bool) :=
  (if p0_0 = true then (some false) else (i_areAgents_l4 fuel a0 0))
def i_areAgents (a0 : List Agent) : Option (Bool) :=
  (if (decide (((List.length a0 : Nat) : Int) < 1)) = true then (i_areAgents_j1 a0 true) else (i_areAgents_j1 a0 (decide (600 < ((List.length a0 : Nat) : Int)))))
def g_IndexFunc_simpl_Port_l1 : Nat → (List Port) → Int → (Port → Option Bool) → Option (Int)
  | 0, _, _, _ => none
  | n + 1, a0, p0_0, f1 => (if (decide (p0_0 < ((List.length a0 : Nat) : Int))) = true then (Option.bind (at? a0 p0_0) fun v5003 => (Option.bind (f1 v5003) fun v5005 => (if v5005 = true then (some p0_0) else (g_IndexFunc_simpl_Port_l1 n a0 (IntKind.i64.wrap (p0_0 + 1)) f1)))) else (some (-1)))
def g_IndexFunc_simpl_Port (a0 : List Port) (f1 : (Port → Option Bool)) : Option (Int) :=
  (g_IndexFunc_simpl_Port_l1 fuel a0 0 f1)
def g_ContainsFunc_simpl_Port (a0 : List Port) (f1 : (Port → Option Bool)) : Option (Bool) :=
  (Option.bind (g_IndexFunc_simpl_Port a0 f1) fun v2002 => (some (decide (0 ≤ v2002))))
mutual
def i_Net_ports_l4 : Nat → Net → (List Port) → Int → Option ((List Port))
  | 0, _, _, _ => none
  | n + 1, a0, p0_0, p0_1 => (if (decide (p0_1 < ((List.length a0.agents : Nat) : Int))) = true then (Option.bind (at? a0.agents p0_1) fun v5001 => (i_Net_ports_l8 n a0 p0_1 v5001 p0_0 0)) else (some p0_0))
def i_Net_ports_l8 : Nat → Net → Int → Agent → (List Port) → Int → Option ((List Port))
  | 0, _, _, _, _, _ => none
  | n + 1, a0, p0_1, v5001, p4_0, p4_1 => (if (decide (p4_1 < ((List.length v5001.ports : Nat) : Int))) = true then (Option.bind (app? p4_0 [(⟨p0_1, p4_1⟩ : Port)]) fun v9005 => (i_Net_ports_l8 n a0 p0_1 v5001 v9005 (IntKind.i64.wrap (p4_1 + 1)))) else (i_Net_ports_l4 n a0 p4_0 (IntKind.i64.wrap (p0_1 + 1))))
end
def i_Net_ports (a0 : Net) : Option ((List Port)) :=
  (i_Net_ports_l4 fuel a0 [] 0)
def i_Net_peer (a0 : Net) (a1 : Port) : Option (Port) :=
  (Option.bind (at? a0.agents a1.agent) fun v2006 => (Option.bind (at? v2006.ports a1.slot) fun v2011 => (some v2011)))
def i_hasPort (a0 : List Agent) (a1 : Port) : Option (Bool) :=
  (if (decide (0 ≤ a1.agent)) = true then (if (decide (a1.agent < ((List.length a0 : Nat) : Int))) = true then (if (decide (0 ≤ a1.slot)) = true then (Option.bind (at? a0 a1.agent) fun v2021 => (some (decide (a1.slot < ((List.length v2021.ports : Nat) : Int))))) else (some false)) else (some false)) else (some false))
def i_ValidNet_1 (a0 : Port) (a1 : Net) : Option (Bool) :=
  (Option.bind (i_Net_peer a1 a0) fun v2001 => (if (decide (v2001.agent = a0.agent) && decide (v2001.slot = a0.slot)) = true then (some true) else (Option.bind (i_hasPort a1.agents v2001) fun v3007 => (if (!v3007) = true then (some true) else (Option.bind (i_Net_peer a1 v2001) fun v3012 => (some (!(decide (v3012.agent = a0.agent) && decide (v3012.slot = a0.slot)))))))))
def i_ValidNet (a0 : Net) : Option (Bool) :=
  (Option.bind (i_areAgents a0.agents) fun v2002 => (if (!v2002) = true then (some false) else (Option.bind (i_Net_ports a0) fun v4000 => (Option.bind (g_ContainsFunc_simpl_Port v4000 (fun y0 => i_ValidNet_1 y0 a0)) fun v4002 => (some (!v4002))))))
def l_szPortS (a0 : List Port) (a1 : Int) : Option (Int) :=
  (if (decide ((IntKind.i64.wrap (a1 - ((List.length a0 : Nat) : Int))) < 0)) = true then (some (-1)) else (some (IntKind.i64.wrap (a1 - ((List.length a0 : Nat) : Int)))))
def l_szAgent (a0 : Agent) (a1 : Int) : Option (Int) :=
  (Option.bind (l_szInt64S a0.data a1) fun v2003 => (if (decide (v2003 < 0)) = true then (some (-1)) else (Option.bind (l_szPortS a0.ports v2003) fun v5003 => (if (decide (v5003 < 0)) = true then (some (-1)) else (some v5003)))))
def l_szAgentS_l1 : Nat → (List Agent) → Int → Int → Option (Int)
  | 0, _, _, _ => none
  | n + 1, a0, p0_0, p0_1 => (if (decide (p0_1 < ((List.length a0 : Nat) : Int))) = true then (Option.bind (at? a0 p0_1) fun v8002 => (Option.bind (l_szAgent v8002 p0_0) fun v8005 => (if (decide (v8005 < 0)) = true then (some (-1)) else (l_szAgentS_l1 n a0 v8005 (IntKind.i64.wrap (p0_1 + 1)))))) else (some p0_0))
def l_szAgentS (a0 : List Agent) (a1 : Int) : Option (Int) :=
  (if (decide ((IntKind.i64.wrap (a1 - ((List.length a0 : Nat) : Int))) < 0)) = true then (some (-1)) else (l_szAgentS_l1 fuel a0 (IntKind.i64.wrap (a1 - ((List.length a0 : Nat) : Int))) 0))
def l_szNet (a0 : Net) (a1 : Int) : Option (Int) :=
  (Option.bind (l_szAgentS a0.agents a1) fun v2003 => (if (decide (v2003 < 0)) = true then (some (-1)) else (some v2003)))
def l_toPort (a0 : Port) : Option (Port) :=
  (some a0)
def l_toPortS_l2 : Nat → (List Port) → (List Port) → Int → Option ((List Port))
  | 0, _, _, _ => none
  | n + 1, a0, p1_0, p1_1 => (if (decide (p1_1 < ((List.length a0 : Nat) : Int))) = true then (Option.bind (at? a0 p1_1) fun v6004 => (Option.bind (l_toPort v6004) fun v6006 => (Option.bind (at? p1_0 p1_1) fun v6007 => (Option.bind (set1? p1_0 p1_1 v6006) fun v6008_12 => (l_toPortS_l2 n a0 v6008_12 (IntKind.i64.wrap (p1_1 + 1))))))) else (some p1_0))
def l_toPortS (a0 : List Port) : Option ((List Port)) :=
  (Option.bind (rep? ((List.length a0 : Nat) : Int) (⟨0, 0⟩ : Port)) fun v2002 => (l_toPortS_l2 fuel a0 v2002 0))
def l_toAgent (a0 : Agent) : Option (Agent) :=
  (Option.bind (l_toInt64S a0.data) fun v6002 => (Option.bind (l_toPortS a0.ports) fun v7002 => (some (⟨a0.kind, a0.level, a0.value, v6002, v7002⟩ : Agent))))
def l_toAgentS_l2 : Nat → (List Agent) → (List Agent) → Int → Option ((List Agent))
  | 0, _, _, _ => none
  | n + 1, a0, p1_0, p1_1 => (if (decide (p1_1 < ((List.length a0 : Nat) : Int))) = true then (Option.bind (at? a0 p1_1) fun v6004 => (Option.bind (l_toAgent v6004) fun v6006 => (Option.bind (at? p1_0 p1_1) fun v6007 => (Option.bind (set1? p1_0 p1_1 v6006) fun v6008_12 => (l_toAgentS_l2 n a0 v6008_12 (IntKind.i64.wrap (p1_1 + 1))))))) else (some p1_0))
def l_toAgentS (a0 : List Agent) : Option ((List Agent)) :=
  (Option.bind (rep? ((List.length a0 : Nat) : Int) (⟨0, 0, 0, [], []⟩ : Agent)) fun v2002 => (l_toAgentS_l2 fuel a0 v2002 0))
def l_toNet (a0 : Net) : Option (Net) :=
  (Option.bind (l_toAgentS a0.agents) fun v3002 => (some (⟨v3002⟩ : Net)))
def l_eqPort (a0 : Port) (a1 : Port) : Option (Bool) :=
  (if (!decide (a0.agent = a1.agent)) = true then (some false) else (if (!decide (a0.slot = a1.slot)) = true then (some false) else (some true)))
def l_eqPortS_l1 : Nat → (List Port) → (List Port) → Int → Option (Bool)
  | 0, _, _, _ => none
  | n + 1, a0, a1, p0_0 => (if (decide (p0_0 < ((List.length a0 : Nat) : Int))) = true then (Option.bind (at? a0 p0_0) fun v7002 => (Option.bind (at? a1 p0_0) fun v7006 => (Option.bind (l_eqPort v7002 v7006) fun v7008 => (if (!v7008) = true then (some false) else (l_eqPortS_l1 n a0 a1 (IntKind.i64.wrap (p0_0 + 1))))))) else (some true))
def l_eqPortS (a0 : List Port) (a1 : List Port) : Option (Bool) :=
  (if (!decide (((List.length a0 : Nat) : Int) = ((List.length a1 : Nat) : Int))) = true then (some false) else (l_eqPortS_l1 fuel a0 a1 0))
def l_eqAgent (a0 : Agent) (a1 : Agent) : Option (Bool) :=
  (if (!decide (a0.kind = a1.kind)) = true then (some false) else (if (!decide (a0.level = a1.level)) = true then (some false) else (if (!decide (a0.value = a1.value)) = true then (some false) else (Option.bind (l_eqInt64S a0.data a1.data) fun v8004 => (if (!v8004) = true then (some false) else (Option.bind (l_eqPortS a0.ports a1.ports) fun v10004 => (if (!v10004) = true then (some false) else (some true))))))))
def l_eqAgentS_l1 : Nat → (List Agent) → (List Agent) → Int → Option (Bool)
  | 0, _, _, _ => none
  | n + 1, a0, a1, p0_0 => (if (decide (p0_0 < ((List.length a0 : Nat) : Int))) = true then (Option.bind (at? a0 p0_0) fun v7002 => (Option.bind (at? a1 p0_0) fun v7006 => (Option.bind (l_eqAgent v7002 v7006) fun v7008 => (if (!v7008) = true then (some false) else (l_eqAgentS_l1 n a0 a1 (IntKind.i64.wrap (p0_0 + 1))))))) else (some true))
def l_eqAgentS (a0 : List Agent) (a1 : List Agent) : Option (Bool) :=
  (if (!decide (((List.length a0 : Nat) : Int) = ((List.length a1 : Nat) : Int))) = true then (some false) else (l_eqAgentS_l1 fuel a0 a1 0))
def l_eqNet (a0 : Net) (a1 : Net) : Option (Bool) :=
  (Option.bind (l_eqAgentS a0.agents a1.agents) fun v2004 => (if (!v2004) = true then (some false) else (some true)))
def l_markPortS_l1 : Nat → (List Port) → Int → Int → Option (Int × (List Port))
  | 0, _, _, _ => none
  | n + 1, p0_0, p0_1, p0_2 => (if (decide (p0_2 < ((List.length p0_0 : Nat) : Int))) = true then (Option.bind (at? p0_0 p0_2) fun v5003 => (Option.bind (set1? p0_0 p0_2 (⟨p0_1, v5003.slot⟩ : Port)) fun v5005_15 => (Option.bind (at? v5005_15 p0_2) fun v7003 => (Option.bind (set1? v5005_15 p0_2 (⟨v7003.agent, (IntKind.i64.wrap (p0_1 + 1))⟩ : Port)) fun v7005_16 => (l_markPortS_l1 n v7005_16 (IntKind.i64.wrap ((IntKind.i64.wrap (p0_1 + 1)) + 1)) (IntKind.i64.wrap (p0_2 + 1))))))) else (some (p0_1, p0_0)))
def l_markPortS (a0 : List Port) (a1 : Int) : Option (Int × (List Port)) :=
  (l_markPortS_l1 fuel a0 a1 0)
def l_markAgentS_l1 : Nat → (List Agent) → Int → Int → Option (Int × (List Agent))
  | 0, _, _, _ => none
  | n + 1, p0_0, p0_1, p0_2 => (if (decide (p0_2 < ((List.length p0_0 : Nat) : Int))) = true then (Option.bind (at? p0_0 p0_2) fun v5003 => (Option.bind (set1? p0_0 p0_2 (⟨p0_1, v5003.level, v5003.value, v5003.data, v5003.ports⟩ : Agent)) fun v5005_36 => (Option.bind (at? v5005_36 p0_2) fun v7003 => (Option.bind (set1? v5005_36 p0_2 (⟨v7003.kind, (IntKind.i64.wrap (p0_1 + 1)), v7003.value, v7003.data, v7003.ports⟩ : Agent)) fun v7005_37 => (Option.bind (at? v7005_37 p0_2) fun v9003 => (Option.bind (set1? v7005_37 p0_2 (⟨v9003.kind, v9003.level, (IntKind.i64.wrap ((IntKind.i64.wrap (p0_1 + 1)) + 1)), v9003.data, v9003.ports⟩ : Agent)) fun v9005_38 => (Option.bind (at? v9005_38 p0_2) fun v11002 => (Option.bind (l_markInt64S v11002.data (IntKind.i64.wrap ((IntKind.i64.wrap ((IntKind.i64.wrap (p0_1 + 1)) + 1)) + 1))) fun v11006 => (Option.bind (set1? v9005_38 p0_2 (⟨v11002.kind, v11002.level, v11002.value, v11006.2, v11002.ports⟩ : Agent)) fun v11006_39 => (Option.bind (at? v11006_39 p0_2) fun v12002 => (Option.bind (l_markPortS v12002.ports v11006.1) fun v12006 => (Option.bind (set1? v11006_39 p0_2 (⟨v12002.kind, v12002.level, v12002.value, v12002.data, v12006.2⟩ : Agent)) fun v12006_40 => (l_markAgentS_l1 n v12006_40 v12006.1 (IntKind.i64.wrap (p0_2 + 1))))))))))))))) else (some (p0_1, p0_0)))
def l_markAgentS (a0 : List Agent) (a1 : Int) : Option (Int × (List Agent)) :=
  (l_markAgentS_l1 fuel a0 a1 0)
def l_markNet (a0 : Net) (a1 : Int) : Option (Int × (List Agent)) :=
  (Option.bind (l_markAgentS a0.agents a1) fun v2003 => (some (v2003.1, v2003.2)))
end Go.Proofs.Ytocpkbclcnjejaa.Ab
