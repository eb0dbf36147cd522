/-
  Models of the functions. Printed by wip/ab/gen.py.
-/
import Derived.Test.YtckcfdggbbabfaaGreatMTyU
import Derived.Test.YtckcfdggbbabfaaGreatMod
namespace Go.Proofs.YtckcfdggbbabfaaGreat.Ab
set_option linter.unusedVariables false
set_option linter.unusedSimpArgs false
set_option maxRecDepth 20000
set_option maxHeartbeats 4000000
open Go.RowKit
def l_markPortS_l1 : Nat → (List Port) → Int → Int → Option (Int × (List Port))
 | 0, _, _, _ => none
 | n + 1, p0_0, p0_1, p0_2 => (if (decide (p0_2 < ((List.length p0_0 : Nat) : Int))) = true then (Option.bind (at? p0_0 p0_2) fun v5003 => (Option.bind (set1? p0_0 p0_2 (⟨p0_1, v5003.slot⟩ : Port)) fun v5005_15 => (Option.bind (at? v5005_15 p0_2) fun v7003 => (Option.bind (set1? v5005_15 p0_2 (⟨v7003.agent, (IntKind.i64.wrap (p0_1 + 1))⟩ : Port)) fun v7005_16 => (l_markPortS_l1 n v7005_16 (IntKind.i64.wrap ((IntKind.i64.wrap (p0_1 + 1)) + 1)) (IntKind.i64.wrap (p0_2 + 1))))))) else (some (p0_1, p0_0)))
def l_markPortS (a0 : List Port) (a1 : Int) : Option (Int × (List Port)) :=
 (l_markPortS_l1 fuel a0 a1 0)
def l_markAgentS_l1 : Nat → (List Agent) → Int → Int → Option (Int × (List Agent))
 | 0, _, _, _ => none
 | n + 1, p0_0, p0_1, p0_2 => (if (decide (p0_2 < ((List.length p0_0 : Nat) : Int))) = true then (Option.bind (at? p0_0 p0_2) fun v5003 => (Option.bind (set1? p0_0 p0_2 (⟨p0_1, v5003.level, v5003.value, v5003.data, v5003.ports⟩ : Agent)) fun v5005_43 => (Option.bind (at? v5005_43 p0_2) fun v7003 => (Option.bind (set1? v5005_43 p0_2 (⟨v7003.kind, (IntKind.i64.wrap (p0_1 + 1)), v7003.value, v7003.data, v7003.ports⟩ : Agent)) fun v7005_44 => (Option.bind (at? v7005_44 p0_2) fun v9003 => (Option.bind (set1? v7005_44 p0_2 (⟨v9003.kind, v9003.level, (IntKind.i64.wrap ((IntKind.i64.wrap (p0_1 + 1)) + 1)), v9003.data, v9003.ports⟩ : Agent)) fun v9005_45 => (Option.bind (at? v9005_45 p0_2) fun v11002 => (Option.bind (l_markInt64S v11002.data (IntKind.i64.wrap ((IntKind.i64.wrap ((IntKind.i64.wrap (p0_1 + 1)) + 1)) + 1))) fun v11006 => (Option.bind (set1? v9005_45 p0_2 (⟨v11002.kind, v11002.level, v11002.value, v11006.2, v11002.ports⟩ : Agent)) fun v11006_47 => (Option.bind (at? v11006_47 p0_2) fun v12002 => (Option.bind (l_markPortS v12002.ports v11006.1) fun v12006 => (Option.bind (set1? v11006_47 p0_2 (⟨v12002.kind, v12002.level, v12002.value, v12002.data, v12006.2⟩ : Agent)) fun v12006_48 => (l_markAgentS_l1 n v12006_48 v12006.1 (IntKind.i64.wrap (p0_2 + 1))))))))))))))) else (some (p0_1, p0_0)))
def l_markAgentS (a0 : List Agent) (a1 : Int) : Option (Int × (List Agent)) :=
 (l_markAgentS_l1 fuel a0 a1 0)
def l_markNet (a0 : Net) (a1 : Int) : Option (Int × (List Agent)) :=
 (Option.bind (l_markAgentS a0.agents a1) fun v2003 => (some (v2003.1, v2003.2)))
def l_heldPortS_l1 : Nat → (List Port) → Int → Int → Option (Int)
 | 0, _, _, _ => none
 | n + 1, a0, p0_0, p0_1 => (if (decide (p0_1 < ((List.length a0 : Nat) : Int))) = true then (Option.bind (at? a0 p0_1) fun v5002 => (if (!decide (v5002.agent = p0_0)) = true then (some (-1)) else (Option.bind (at? a0 p0_1) fun v8002 => (if (!decide (v8002.slot = (IntKind.i64.wrap (p0_0 + 1)))) = true then (some (-1)) else (l_heldPortS_l1 n a0 (IntKind.i64.wrap ((IntKind.i64.wrap (p0_0 + 1)) + 1)) (IntKind.i64.wrap (p0_1 + 1))))))) else (some p0_0))
def l_heldPortS (a0 : List Port) (a1 : Int) : Option (Int) :=
 (l_heldPortS_l1 fuel a0 a1 0)
def l_heldAgentS_l1 : Nat → (List Agent) → Int → Int → Option (Int)
 | 0, _, _, _ => none
 | n + 1, a0, p0_0, p0_1 => (if (decide (p0_1 < ((List.length a0 : Nat) : Int))) = true then (Option.bind (at? a0 p0_1) fun v5002 => (if (!decide (v5002.kind = p0_0)) = true then (some (-1)) else (Option.bind (at? a0 p0_1) fun v8002 => (if (!decide (v8002.level = (IntKind.i64.wrap (p0_0 + 1)))) = true then (some (-1)) else (Option.bind (at? a0 p0_1) fun v11002 => (if (!decide (v11002.value = (IntKind.i64.wrap ((IntKind.i64.wrap (p0_0 + 1)) + 1)))) = true then (some (-1)) else (Option.bind (at? a0 p0_1) fun v14002 => (Option.bind (l_heldInt64S v14002.data (IntKind.i64.wrap ((IntKind.i64.wrap ((IntKind.i64.wrap (p0_0 + 1)) + 1)) + 1))) fun v14006 => (if (decide (v14006 < 0)) = true then (some (-1)) else (Option.bind (at? a0 p0_1) fun v17002 => (Option.bind (l_heldPortS v17002.ports v14006) fun v17006 => (if (decide (v17006 < 0)) = true then (some (-1)) else (l_heldAgentS_l1 n a0 v17006 (IntKind.i64.wrap (p0_1 + 1))))))))))))))) else (some p0_0))
def l_heldAgentS (a0 : List Agent) (a1 : Int) : Option (Int) :=
 (l_heldAgentS_l1 fuel a0 a1 0)
def l_heldNet (a0 : Net) (a1 : Int) : Option (Int) :=
 (Option.bind (l_heldAgentS a0.agents a1) fun v2003 => (if (decide (v2003 < 0)) = true then (some (-1)) else (some v2003)))
def l_markNetS_l1 : Nat → (List Net) → Int → Int → Option (Int × (List Net))
 | 0, _, _, _ => none
 | n + 1, p0_0, p0_1, p0_2 => (if (decide (p0_2 < ((List.length p0_0 : Nat) : Int))) = true then (Option.bind (at? p0_0 p0_2) fun v5002 => (Option.bind (l_markAgentS v5002.agents p0_1) fun v5006 => (Option.bind (set1? p0_0 p0_2 (⟨v5006.2⟩ : Net)) fun v5006_8 => (l_markNetS_l1 n v5006_8 v5006.1 (IntKind.i64.wrap (p0_2 + 1)))))) else (some (p0_1, p0_0)))
def l_markNetS (a0 : List Net) (a1 : Int) : Option (Int × (List Net)) :=
 (l_markNetS_l1 fuel a0 a1 0)
def l_heldNetS_l1 : Nat → (List Net) → Int → Int → Option (Int)
 | 0, _, _, _ => none
 | n + 1, a0, p0_0, p0_1 => (if (decide (p0_1 < ((List.length a0 : Nat) : Int))) = true then (Option.bind (at? a0 p0_1) fun v5002 => (Option.bind (l_heldAgentS v5002.agents p0_0) fun v5006 => (if (decide (v5006 < 0)) = true then (some (-1)) else (l_heldNetS_l1 n a0 v5006 (IntKind.i64.wrap (p0_1 + 1)))))) else (some p0_0))
def l_heldNetS (a0 : List Net) (a1 : Int) : Option (Int) :=
 (l_heldNetS_l1 fuel a0 a1 0)
def g_IndexFunc_sint64_l1 : Nat → (List Int) → Int → (Int → Option Bool) → Option (Int)
 | 0, _, _, _ => none
 | n + 1, a0, p0_0, f1 => (if (decide (p0_0 < ((List.length a0 : Nat) : Int))) = true then (Option.bind (at? a0 p0_0) fun v5003 => (Option.bind (f1 v5003) fun v5005 => (if v5005 = true then (some p0_0) else (g_IndexFunc_sint64_l1 n a0 (IntKind.i64.wrap (p0_0 + 1)) f1)))) else (some (-1)))
def g_IndexFunc_sint64 (a0 : List Int) (f1 : (Int → Option Bool)) : Option (Int) :=
 (g_IndexFunc_sint64_l1 fuel a0 0 f1)
def g_ContainsFunc_sint64 (a0 : List Int) (f1 : (Int → Option Bool)) : Option (Bool) :=
 (Option.bind (g_IndexFunc_sint64 a0 f1) fun v2002 => (some (decide (0 ≤ v2002))))
def i_atMost_1 (a0 : Int) (a1 : Int) : Option (Bool) :=
 (if (decide (a0 < 0)) = true then (some true) else (some (decide (a1 < a0))))
def i_atMost (a0 : Int) (a1 : List Int) : Option (Bool) :=
 (Option.bind (g_ContainsFunc_sint64 a1 (fun y0 => i_atMost_1 y0 a0)) fun v2002 => (some (!v2002)))
def i_ValidCounts_1 (a0 : Int) : Option (Bool) :=
 (if (decide (a0 < 0)) = true then (some true) else (some (decide (1000000000 < a0))))
def i_ValidCounts (a0 : List Int) : Option (Bool) :=
 (if (decide (((List.length a0 : Nat) : Int) = 7)) = true then (Option.bind (g_ContainsFunc_sint64 a0 (fun y0 => i_ValidCounts_1 y0)) fun v2005 => (some (!v2005))) else (some false))
def i_TotalCounts_l1 : Nat → (List Int) → Int → Int → Option (Int)
 | 0, _, _, _ => none
 | n + 1, a0, p0_0, p0_1 => (if (decide (p0_1 < ((List.length a0 : Nat) : Int))) = true then (Option.bind (at? a0 p0_1) fun v7000 => (i_TotalCounts_l1 n a0 (IntKind.i64.wrap (p0_0 + v7000)) (IntKind.i64.wrap (p0_1 + 1)))) else (some p0_0))
def i_TotalCounts (a0 : List Int) : Option (Int) :=
 (Option.bind (i_ValidCounts a0) fun v2001 => (if (!v2001) = true then (some 0) else (i_TotalCounts_l1 fuel a0 0 0)))
def i_truth (a0 : Bool) : Option (Int) :=
 (if a0 = true then (some 1) else (some 0))
def g_IndexFunc_simpl_Net_l1 : Nat → (List Net) → Int → (Net → Option Bool) → Option (Int)
 | 0, _, _, _ => none
 | n + 1, a0, p0_0, f1 => (if (decide (p0_0 < ((List.length a0 : Nat) : Int))) = true then (Option.bind (at? a0 p0_0) fun v5003 => (Option.bind (f1 v5003) fun v5005 => (if v5005 = true then (some p0_0) else (g_IndexFunc_simpl_Net_l1 n a0 (IntKind.i64.wrap (p0_0 + 1)) f1)))) else (some (-1)))
def g_IndexFunc_simpl_Net (a0 : List Net) (f1 : (Net → Option Bool)) : Option (Int) :=
 (g_IndexFunc_simpl_Net_l1 fuel a0 0 f1)
def g_ContainsFunc_simpl_Net (a0 : List Net) (f1 : (Net → Option Bool)) : Option (Bool) :=
 (Option.bind (g_IndexFunc_simpl_Net a0 f1) fun v2002 => (some (decide (0 ≤ v2002))))
def i_isKind (a0 : Int) : Option (Bool) :=
 (if (decide (1 ≤ a0)) = true then (some (decide (a0 ≤ 12))) else (some false))
def i_PortsOf_j2 (a0 : Int) (p1_0 : Bool) : Option (Int) :=
 (if p1_0 = true then (some 0) else (Option.bind (atI [0, 1, 3, 3, 3, 1, 1, 3, 2, 0, 2, 2, 1] a0) fun v6002 => (some v6002)))
def i_PortsOf_j1 (a0 : Int) (a1 : Int) (p0_0 : Bool) : Option (Int) :=
 (if p0_0 = true then (some (IntKind.i64.wrap (a1 + 1))) else (Option.bind (i_isKind a0) fun v4001 => (if (!v4001) = true then (i_PortsOf_j2 a0 true) else (if (decide (a0 = 9)) = true then (i_PortsOf_j2 a0 true) else (i_PortsOf_j2 a0 (!decide (a1 = 0)))))))
def i_PortsOf (a0 : Int) (a1 : Int) : Option (Int) :=
 (if (decide (a0 = 9)) = true then (if (decide (0 ≤ a1)) = true then (i_PortsOf_j1 a0 a1 (decide (a1 ≤ 3))) else (i_PortsOf_j1 a0 a1 false)) else (i_PortsOf_j1 a0 a1 false))
def i_fieldsOf (a0 : Int) (a1 : Int) : Option (Int) :=
 (if (decide (a0 = 9)) = true then (some (IntKind.i64.wrap (a1 - 1))) else (some 0))
def i_HasLevel (a0 : Int) : Option (Bool) :=
 (Option.bind (i_isKind a0) fun v2001 => (if v2001 = true then (if (!decide (a0 = 1)) = true then (if (!decide (a0 = 5)) = true then (some (!decide (a0 = 6))) else (some false)) else (some false)) else (some false)))
def i_isLevel (a0 : Int) : Option (Bool) :=
 (if (decide (0 ≤ a0)) = true then (some (decide (a0 ≤ 8))) else (some false))
def i_isAllowed (a0 : Int) (a1 : Int) : Option (Bool) :=
 (Option.bind (i_isKind a0) fun v2001 => (if v2001 = true then (if (decide (a1 = 0)) = true then (some true) else (Option.bind (i_HasLevel a0) fun v2007 => (if v2007 = true then (Option.bind (i_isLevel a1) fun v2010 => (some v2010)) else (some false)))) else (some false)))
def i_isDefIndex (a0 : Int) : Option (Bool) :=
 (if (decide (0 ≤ a0)) = true then (some (decide (a0 < 24))) else (some false))
def i_wellFormed_1 (a0 : Int) : Option (Bool) :=
 (Option.bind (i_isDefIndex a0) fun v2001 => (some (!v2001)))
def i_isInt (a0 : Int) : Option (Bool) :=
 (if (decide ((-2147483648) ≤ a0)) = true then (some (decide (a0 ≤ 2147483647))) else (some false))
def i_isOperator (a0 : Int) : Option (Bool) :=
 (if (decide (1 ≤ a0)) = true then (some (decide (a0 ≤ 6))) else (some false))
def i_wellFormed_j2 (p1_0 : Bool) (p1_1 : Bool) : Option (Bool) :=
 (if p1_0 = true then (some p1_1) else (some false))
def i_wellFormed_j1 (a0 : Agent) (p0_0 : Bool) : Option (Bool) :=
 (if p0_0 = true then (some false) else (Option.bind (g_ContainsFunc_sint64 a0.data (fun y0 => i_wellFormed_1 y0)) fun v5002 => (if (decide (a0.kind = 6)) = true then (Option.bind (i_isInt a0.value) fun v8002 => (i_wellFormed_j2 v8002 (decide (((List.length a0.data : Nat) : Int) = 0)))) else (if (decide (a0.kind = 7)) = true then (Option.bind (i_isOperator a0.value) fun v10002 => (i_wellFormed_j2 v10002 (decide (((List.length a0.data : Nat) : Int) = 0)))) else (if (decide (a0.kind = 8)) = true then (Option.bind (i_isOperator a0.value) fun v12002 => (if v12002 = true then (if (decide (((List.length a0.data : Nat) : Int) = 1)) = true then (Option.bind (at? a0.data 0) fun v12012 => (Option.bind (i_isInt v12012) fun v12014 => (some v12014))) else (some false)) else (some false))) else (if (decide (a0.kind = 9)) = true then (if (decide (0 ≤ a0.value)) = true then (i_wellFormed_j2 (decide (a0.value < 4)) (decide (((List.length a0.data : Nat) : Int) = 0))) else (i_wellFormed_j2 false (decide (((List.length a0.data : Nat) : Int) = 0)))) else (if (decide (a0.kind = 10)) = true then (if (decide (1 ≤ ((List.length a0.data : Nat) : Int))) = true then (if (decide (((List.length a0.data : Nat) : Int) ≤ 4)) = true then (i_wellFormed_j2 (decide (a0.value = 0)) (!v5002)) else (i_wellFormed_j2 (decide (a0.value = 0)) false)) else (i_wellFormed_j2 (decide (a0.value = 0)) false)) else (if (decide (a0.kind = 11)) = true then (if (decide (((List.length a0.data : Nat) : Int) = 2)) = true then (i_wellFormed_j2 (decide (a0.value = 0)) (!v5002)) else (i_wellFormed_j2 (decide (a0.value = 0)) false)) else (if (decide (a0.kind = 12)) = true then (Option.bind (i_isDefIndex a0.value) fun v20002 => (i_wellFormed_j2 v20002 (decide (((List.length a0.data : Nat) : Int) = 0)))) else (i_wellFormed_j2 (decide (a0.value = 0)) (decide (((List.length a0.data : Nat) : Int) = 0))))))))))))
def i_wellFormed (a0 : Agent) : Option (Bool) :=
 (if (decide (((List.length a0.ports : Nat) : Int) = 0)) = true then (i_wellFormed_j1 a0 true) else (Option.bind (i_fieldsOf a0.kind ((List.length a0.ports : Nat) : Int)) fun v2012 => (Option.bind (i_PortsOf a0.kind v2012) fun v2013 => (if (!decide (v2013 = ((List.length a0.ports : Nat) : Int))) = true then (i_wellFormed_j1 a0 true) else (Option.bind (i_isAllowed a0.kind a0.level) fun v2024 => (i_wellFormed_j1 a0 (!v2024)))))))
mutual
def i_areAgents_l4 : Nat → (List Agent) → Int → Option (Bool)
 | 0, _, _ => none
 | n + 1, a0, p1_0 => (if (decide (p1_0 < ((List.length a0 : Nat) : Int))) = true then (Option.bind (at? a0 p1_0) fun v6001 => (Option.bind (i_wellFormed v6001) fun v7001 => (if (!v7001) = true then (i_areAgents_j5 n a0 p1_0 true) else (i_areAgents_j5 n a0 p1_0 (!((decide (v6001.kind = 1)) == (decide (p1_0 = 0)))))))) else (some true))
def i_areAgents_j5 : Nat → (List Agent) → Int → Bool → Option (Bool)
 | 0, _, _, _ => none
 | n + 1, a0, p1_0, p2_0 => (if p2_0 = true then (some false) else (i_areAgents_l4 n a0 (IntKind.i64.wrap (p1_0 + 1))))
end
def i_areAgents_j1 (a0 : List Agent) (p0_0 : Bool) : Option (Bool) :=
 (if p0_0 = true then (some false) else (i_areAgents_l4 fuel a0 0))
def i_areAgents (a0 : List Agent) : Option (Bool) :=
 (if (decide (((List.length a0 : Nat) : Int) < 1)) = true then (i_areAgents_j1 a0 true) else (i_areAgents_j1 a0 (decide (600 < ((List.length a0 : Nat) : Int)))))
def g_IndexFunc_simpl_Port_l1 : Nat → (List Port) → Int → (Port → Option Bool) → Option (Int)
 | 0, _, _, _ => none
 | n + 1, a0, p0_0, f1 => (if (decide (p0_0 < ((List.length a0 : Nat) : Int))) = true then (Option.bind (at? a0 p0_0) fun v5003 => (Option.bind (f1 v5003) fun v5005 => (if v5005 = true then (some p0_0) else (g_IndexFunc_simpl_Port_l1 n a0 (IntKind.i64.wrap (p0_0 + 1)) f1)))) else (some (-1)))
def g_IndexFunc_simpl_Port (a0 : List Port) (f1 : (Port → Option Bool)) : Option (Int) :=
 (g_IndexFunc_simpl_Port_l1 fuel a0 0 f1)
def g_ContainsFunc_simpl_Port (a0 : List Port) (f1 : (Port → Option Bool)) : Option (Bool) :=
 (Option.bind (g_IndexFunc_simpl_Port a0 f1) fun v2002 => (some (decide (0 ≤ v2002))))
mutual
def i_Net_ports_l4 : Nat → Net → (List Port) → Int → Option ((List Port))
 | 0, _, _, _ => none
 | n + 1, a0, p0_0, p0_1 => (if (decide (p0_1 < ((List.length a0.agents : Nat) : Int))) = true then (Option.bind (at? a0.agents p0_1) fun v5001 => (i_Net_ports_l8 n a0 p0_1 v5001 p0_0 0)) else (some p0_0))
def i_Net_ports_l8 : Nat → Net → Int → Agent → (List Port) → Int → Option ((List Port))
 | 0, _, _, _, _, _ => none
 | n + 1, a0, p0_1, v5001, p4_0, p4_1 => (if (decide (p4_1 < ((List.length v5001.ports : Nat) : Int))) = true then (Option.bind (app? p4_0 [(⟨p0_1, p4_1⟩ : Port)]) fun v9005 => (i_Net_ports_l8 n a0 p0_1 v5001 v9005 (IntKind.i64.wrap (p4_1 + 1)))) else (i_Net_ports_l4 n a0 p4_0 (IntKind.i64.wrap (p0_1 + 1))))
end
def i_Net_ports (a0 : Net) : Option ((List Port)) :=
 (i_Net_ports_l4 fuel a0 [] 0)
def i_Net_peer (a0 : Net) (a1 : Port) : Option (Port) :=
 (Option.bind (at? a0.agents a1.agent) fun v2006 => (Option.bind (at? v2006.ports a1.slot) fun v2011 => (some v2011)))
def i_hasPort (a0 : List Agent) (a1 : Port) : Option (Bool) :=
 (if (decide (0 ≤ a1.agent)) = true then (if (decide (a1.agent < ((List.length a0 : Nat) : Int))) = true then (if (decide (0 ≤ a1.slot)) = true then (Option.bind (at? a0 a1.agent) fun v2021 => (some (decide (a1.slot < ((List.length v2021.ports : Nat) : Int))))) else (some false)) else (some false)) else (some false))
def i_ValidNet_1 (a0 : Port) (a1 : Net) : Option (Bool) :=
 (Option.bind (i_Net_peer a1 a0) fun v2001 => (if (decide (v2001.agent = a0.agent) && decide (v2001.slot = a0.slot)) = true then (some true) else (Option.bind (i_hasPort a1.agents v2001) fun v3007 => (if (!v3007) = true then (some true) else (Option.bind (i_Net_peer a1 v2001) fun v3012 => (some (!(decide (v3012.agent = a0.agent) && decide (v3012.slot = a0.slot)))))))))
def i_ValidNet (a0 : Net) : Option (Bool) :=
 (Option.bind (i_areAgents a0.agents) fun v2002 => (if (!v2002) = true then (some false) else (Option.bind (i_Net_ports a0) fun v4000 => (Option.bind (g_ContainsFunc_simpl_Port v4000 (fun y0 => i_ValidNet_1 y0 a0)) fun v4002 => (some (!v4002))))))
def i_ValidTemplates_1 (a0 : Net) : Option (Bool) :=
 (Option.bind (i_ValidNet a0) fun v2001 => (some (!v2001)))
def i_ValidTemplates (a0 : List Net) : Option (Bool) :=
 (if (decide (((List.length a0 : Nat) : Int) ≤ 24)) = true then (Option.bind (g_ContainsFunc_simpl_Net a0 (fun y0 => i_ValidTemplates_1 y0)) fun v2005 => (some (!v2005))) else (some false))
def i_ValidSchedule_1 (a0 : Int) : Option (Bool) :=
 (if (decide (a0 < 0)) = true then (some true) else (some (decide (600 < a0))))
def i_ValidSchedule (a0 : List Int) : Option (Bool) :=
 (if (decide (((List.length a0 : Nat) : Int) ≤ 200)) = true then (Option.bind (g_ContainsFunc_sint64 a0 (fun y0 => i_ValidSchedule_1 y0)) fun v2005 => (some (!v2005))) else (some false))
def i_isEmptyNet (a0 : Net) : Option (Bool) :=
 (some (decide (((List.length a0.agents : Nat) : Int) = 0)))
def i_Job_contentsOk (a0 : Job) : Option (Bool) :=
 (if (decide (a0.state = 1)) = true then (Option.bind (i_ValidSchedule a0.schedule) fun v3002 => (if v3002 = true then (Option.bind (i_ValidTemplates a0.book) fun v3006 => (if v3006 = true then (Option.bind (i_ValidNet a0.net) fun v3011 => (some v3011)) else (some false))) else (some false))) else (if (decide (0 < (IntKind.i64.wrap (((List.length a0.schedule : Nat) : Int) + ((List.length a0.book : Nat) : Int))))) = true then (some false) else (if (decide (a0.state = 2)) = true then (Option.bind (i_ValidNet a0.net) fun v7002 => (some v7002)) else (Option.bind (i_isEmptyNet a0.net) fun v8002 => (some v8002)))))
def i_validJob_j2 (a0 : Job) (p1_0 : Bool) : Option (Bool) :=
 (if p1_0 = true then (some false) else (Option.bind (i_Job_contentsOk a0) fun v8001 => (some v8001)))
def i_validJob_j1 (a0 : Job) (p0_0 : Bool) : Option (Bool) :=
 (if p0_0 = true then (some false) else (Option.bind (i_TotalCounts a0.counts) fun v4002 => (Option.bind (i_truth (!decide (a0.state = 1))) fun v5004 => (if (decide (4000 < (IntKind.i64.wrap (v4002 + a0.left)))) = true then (i_validJob_j2 a0 true) else (Option.bind (i_atMost (IntKind.i64.wrap (v4002 + v5004)) [a0.slices]) fun v6010 => (if (!v6010) = true then (i_validJob_j2 a0 true) else (Option.bind (i_atMost 14 [a0.code]) fun v6017 => (if (!v6017) = true then (i_validJob_j2 a0 true) else (i_validJob_j2 a0 (!((decide (a0.code = 0)) == (!decide (a0.state = 3)))))))))))))
def i_validJob (a0 : Job) : Option (Bool) :=
 (if (decide (a0.weight < 1)) = true then (i_validJob_j1 a0 true) else (if (decide (4 < a0.weight)) = true then (i_validJob_j1 a0 true) else (if (decide (a0.state < 1)) = true then (i_validJob_j1 a0 true) else (if (decide (4 < a0.state)) = true then (i_validJob_j1 a0 true) else (Option.bind (i_atMost 4000 [a0.left]) fun v2022 => (if (!v2022) = true then (i_validJob_j1 a0 true) else (Option.bind (i_ValidCounts a0.counts) fun v2028 => (i_validJob_j1 a0 (!v2028)))))))))
mutual
def i_ValidQueue_l8 : Nat → Queue → Int → Option (Bool)
 | 0, _, _ => none
 | n + 1, a0, p3_0 => (if (decide (p3_0 < ((List.length a0.jobs : Nat) : Int))) = true then (Option.bind (at? a0.jobs p3_0) fun v8001 => (if (decide (v8001.id < 1)) = true then (i_ValidQueue_j9 n a0 p3_0 true) else (if (decide (a0.nextId ≤ v8001.id)) = true then (i_ValidQueue_j9 n a0 p3_0 true) else (if (decide (0 < p3_0)) = true then (Option.bind (at? a0.jobs (IntKind.i64.wrap (p3_0 - 1))) fun v9018 => (if (decide (v8001.id ≤ v9018.id)) = true then (i_ValidQueue_j9 n a0 p3_0 true) else (Option.bind (i_validJob v8001) fun v9028 => (i_ValidQueue_j9 n a0 p3_0 (!v9028))))) else (Option.bind (i_validJob v8001) fun v9028 => (i_ValidQueue_j9 n a0 p3_0 (!v9028))))))) else (some true))
def i_ValidQueue_j9 : Nat → Queue → Int → Bool → Option (Bool)
 | 0, _, _, _ => none
 | n + 1, a0, p3_0, p4_0 => (if p4_0 = true then (some false) else (i_ValidQueue_l8 n a0 (IntKind.i64.wrap (p3_0 + 1))))
end
def i_ValidQueue_j1 (a0 : Queue) (p0_0 : Bool) : Option (Bool) :=
 (if p0_0 = true then (some false) else (Option.bind (i_atMost (if (IntKind.i64.wrap (((List.length a0.jobs : Nat) : Int) - 1)) < 0 then 0 else (IntKind.i64.wrap (((List.length a0.jobs : Nat) : Int) - 1))) [a0.turn]) fun v4008 => (if (!v4008) = true then (some false) else (i_ValidQueue_l8 fuel a0 0))))
def i_ValidQueue (a0 : Queue) : Option (Bool) :=
 (if (decide (a0.quantum < 1)) = true then (i_ValidQueue_j1 a0 true) else (if (decide (50 < a0.quantum)) = true then (i_ValidQueue_j1 a0 true) else (if (decide (a0.nextId < 1)) = true then (i_ValidQueue_j1 a0 true) else (if (decide (1000000000 < a0.nextId)) = true then (i_ValidQueue_j1 a0 true) else (i_ValidQueue_j1 a0 (decide (6 < ((List.length a0.jobs : Nat) : Int))))))))
def s_l00In (a0 : Int) (a1 : Int) (a2 : Int) : Option (Bool) :=
 (if (decide (a1 ≤ a0)) = true then (some (decide (a0 ≤ a2))) else (some false))
def s_l00Max (a0 : Int) (a1 : Int) : Option (Int) :=
 (if (decide (a1 < a0)) = true then (some a0) else (some a1))
def s_l11Fields (a0 : Agent) : Option (Int) :=
 (if (decide (a0.kind = 9)) = true then (some (IntKind.i64.wrap (((List.length a0.ports : Nat) : Int) - 1))) else (some 0))
def s_PortsOf_j3 (p2_0 : Bool) : Option (Int) :=
 (if p2_0 = true then (some 3) else (some 0))
def s_PortsOf_j2 (a0 : Int) (p1_0 : Bool) : Option (Int) :=
 (if p1_0 = true then (some 2) else (if (decide (a0 = 2)) = true then (s_PortsOf_j3 (decide (a0 = 2))) else (if (decide (a0 = 3)) = true then (s_PortsOf_j3 (decide (a0 = 3))) else (if (decide (a0 = 4)) = true then (s_PortsOf_j3 (decide (a0 = 4))) else (s_PortsOf_j3 (decide (a0 = 7)))))))
def s_PortsOf_j1 (a0 : Int) (p0_0 : Bool) : Option (Int) :=
 (if p0_0 = true then (some 1) else (if (decide (a0 = 8)) = true then (s_PortsOf_j2 a0 (decide (a0 = 8))) else (if (decide (a0 = 10)) = true then (s_PortsOf_j2 a0 (decide (a0 = 10))) else (s_PortsOf_j2 a0 (decide (a0 = 11))))))
def s_PortsOf (a0 : Int) (a1 : Int) : Option (Int) :=
 (if (decide (a0 = 9)) = true then (Option.bind (s_l00In a1 0 3) fun v3001 => (if v3001 = true then (some (IntKind.i64.wrap (1 + a1))) else (some 0))) else (if (!decide (a1 = 0)) = true then (some 0) else (if (decide (a0 = 1)) = true then (s_PortsOf_j1 a0 (decide (a0 = 1))) else (if (decide (a0 = 5)) = true then (s_PortsOf_j1 a0 (decide (a0 = 5))) else (if (decide (a0 = 6)) = true then (s_PortsOf_j1 a0 (decide (a0 = 6))) else (s_PortsOf_j1 a0 (decide (a0 = 12))))))))
def s_HasLevel_j1 (p0_0 : Bool) : Option (Bool) :=
 (if p0_0 = true then (some true) else (some false))
def s_HasLevel (a0 : Int) : Option (Bool) :=
 (if (decide (a0 = 2)) = true then (s_HasLevel_j1 (decide (a0 = 2))) else (if (decide (a0 = 3)) = true then (s_HasLevel_j1 (decide (a0 = 3))) else (if (decide (a0 = 4)) = true then (s_HasLevel_j1 (decide (a0 = 4))) else (if (decide (a0 = 7)) = true then (s_HasLevel_j1 (decide (a0 = 7))) else (if (decide (a0 = 8)) = true then (s_HasLevel_j1 (decide (a0 = 8))) else (if (decide (a0 = 9)) = true then (s_HasLevel_j1 (decide (a0 = 9))) else (if (decide (a0 = 10)) = true then (s_HasLevel_j1 (decide (a0 = 10))) else (if (decide (a0 = 11)) = true then (s_HasLevel_j1 (decide (a0 = 11))) else (s_HasLevel_j1 (decide (a0 = 12)))))))))))
def s_l10Kind (a0 : Int) : Option (Bool) :=
 (Option.bind (s_l00In a0 1 12) fun v2001 => (some v2001))
def s_l10Level (a0 : Int) (a1 : Int) : Option (Bool) :=
 (Option.bind (s_HasLevel a0) fun v2001 => (if v2001 = true then (Option.bind (s_l00In a1 0 8) fun v3001 => (some v3001)) else (Option.bind (s_l10Kind a0) fun v4001 => (if v4001 = true then (some (decide (a1 = 0))) else (some false)))))
def s_l11Def (a0 : Int) : Option (Bool) :=
 (Option.bind (s_l00In a0 0 23) fun v2001 => (some v2001))
def s_l11Content_l3 : Nat → Agent → Int → Option (Bool)
 | 0, _, _ => none
 | n + 1, a0, p2_0 => (if (decide (p2_0 < ((List.length a0.data : Nat) : Int))) = true then (Option.bind (at? a0.data p2_0) fun v20005 => (Option.bind (s_l11Def v20005) fun v20007 => (if (!v20007) = true then (some false) else (s_l11Content_l3 n a0 (IntKind.i64.wrap (p2_0 + 1)))))) else (some true))
def s_l11Content_j2 (a0 : Agent) (p1_0 : Bool) : Option (Bool) :=
 (if p1_0 = true then (some false) else (s_l11Content_l3 fuel a0 0))
def s_l11Content_j1 (a0 : Agent) (p0_0 : Bool) : Option (Bool) :=
 (if p0_0 = true then (if (!decide (a0.value = 0)) = true then (s_l11Content_j2 a0 true) else (if (decide (a0.kind = 11)) = true then (if (!decide (((List.length a0.data : Nat) : Int) = 2)) = true then (s_l11Content_j2 a0 true) else (if (decide (a0.kind = 10)) = true then (Option.bind (s_l00In ((List.length a0.data : Nat) : Int) 1 4) fun v15032 => (s_l11Content_j2 a0 (!v15032))) else (s_l11Content_j2 a0 false))) else (if (decide (a0.kind = 10)) = true then (Option.bind (s_l00In ((List.length a0.data : Nat) : Int) 1 4) fun v15032 => (s_l11Content_j2 a0 (!v15032))) else (s_l11Content_j2 a0 false)))) else (if (decide (a0.value = 0)) = true then (some (decide (((List.length a0.data : Nat) : Int) = 0))) else (some false)))
def s_l11Content (a0 : Agent) : Option (Bool) :=
 (if (decide (a0.kind = 6)) = true then (if (decide (((List.length a0.data : Nat) : Int) = 0)) = true then (Option.bind (s_l00In a0.value (-2147483648) 2147483647) fun v4011 => (some v4011)) else (some false)) else (if (decide (a0.kind = 7)) = true then (if (decide (((List.length a0.data : Nat) : Int) = 0)) = true then (Option.bind (s_l00In a0.value 1 6) fun v6011 => (some v6011)) else (some false)) else (if (decide (a0.kind = 8)) = true then (if (decide (((List.length a0.data : Nat) : Int) = 1)) = true then (Option.bind (s_l00In a0.value 1 6) fun v8011 => (if v8011 = true then (Option.bind (at? a0.data 0) fun v8018 => (Option.bind (s_l00In v8018 (-2147483648) 2147483647) fun v8020 => (some v8020))) else (some false))) else (some false)) else (if (decide (a0.kind = 9)) = true then (if (decide (((List.length a0.data : Nat) : Int) = 0)) = true then (Option.bind (s_l00In a0.value 0 3) fun v10011 => (some v10011)) else (some false)) else (if (decide (a0.kind = 12)) = true then (if (decide (((List.length a0.data : Nat) : Int) = 0)) = true then (Option.bind (s_l11Def a0.value) fun v12011 => (some v12011)) else (some false)) else (if (decide (a0.kind = 10)) = true then (s_l11Content_j1 a0 (decide (a0.kind = 10))) else (s_l11Content_j1 a0 (decide (a0.kind = 11)))))))))
def s_l11Agent (a0 : Agent) : Option (Bool) :=
 (Option.bind (s_l11Fields a0) fun v2005 => (Option.bind (s_PortsOf a0.kind v2005) fun v2006 => (if (decide (0 < v2006)) = true then (if (decide (((List.length a0.ports : Nat) : Int) = v2006)) = true then (Option.bind (s_l10Level a0.kind a0.level) fun v3020 => (if v3020 = true then (Option.bind (s_l11Content a0) fun v3024 => (some v3024)) else (some false))) else (some false)) else (some false))))
mutual
def s_l11Agents_l3 : Nat → (List Agent) → Int → Option (Bool)
 | 0, _, _ => none
 | n + 1, a0, p0_0 => (if (decide (p0_0 < ((List.length a0 : Nat) : Int))) = true then (Option.bind (at? a0 p0_0) fun v7002 => (Option.bind (s_l11Agent v7002) fun v7003 => (if (!v7003) = true then (s_l11Agents_j4 n a0 p0_0 true) else (Option.bind (at? a0 p0_0) fun v7008 => (s_l11Agents_j4 n a0 p0_0 (!((decide (v7008.kind = 1)) == (decide (p0_0 = 0))))))))) else (some true))
def s_l11Agents_j4 : Nat → (List Agent) → Int → Bool → Option (Bool)
 | 0, _, _, _ => none
 | n + 1, a0, p0_0, p1_0 => (if p1_0 = true then (some false) else (s_l11Agents_l3 n a0 (IntKind.i64.wrap (p0_0 + 1))))
end
def s_l11Agents (a0 : List Agent) : Option (Bool) :=
 (Option.bind (s_l00In ((List.length a0 : Nat) : Int) 1 600) fun v2002 => (if (!v2002) = true then (some false) else (s_l11Agents_l3 fuel a0 0)))
def s_l11Port (a0 : List Agent) (a1 : Port) : Option (Bool) :=
 (Option.bind (s_l00In a1.agent 0 (IntKind.i64.wrap (((List.length a0 : Nat) : Int) - 1))) fun v2005 => (if v2005 = true then (Option.bind (at? a0 a1.agent) fun v2012 => (Option.bind (s_l00In a1.slot 0 (IntKind.i64.wrap (((List.length v2012.ports : Nat) : Int) - 1))) fun v2017 => (some v2017))) else (some false)))
mutual
def s_l11Ok_l9 : Nat → Net → Int → Option (Bool)
 | 0, _, _ => none
 | n + 1, a0, p0_0 => (if (decide (p0_0 < ((List.length a0.agents : Nat) : Int))) = true then (Option.bind (at? a0.agents p0_0) fun v7005 => (s_l11Ok_l12 n a0 p0_0 v7005 0)) else (some true))
def s_l11Ok_l12 : Nat → Net → Int → Agent → Int → Option (Bool)
 | 0, _, _, _, _ => none
 | n + 1, a0, p0_0, v7005, p1_0 => (if (decide (p1_0 < ((List.length v7005.ports : Nat) : Int))) = true then (Option.bind (at? v7005.ports p1_0) fun v12005 => (if (decide (v12005.agent = p0_0) && decide (v12005.slot = p1_0)) = true then (s_l11Ok_j13 n a0 p0_0 p1_0 v7005 true) else (Option.bind (s_l11Port a0.agents v12005) fun v13009 => (if (!v13009) = true then (s_l11Ok_j13 n a0 p0_0 p1_0 v7005 true) else (Option.bind (at? a0.agents v12005.agent) fun v13019 => (Option.bind (at? v13019.ports v12005.slot) fun v13024 => (s_l11Ok_j13 n a0 p0_0 p1_0 v7005 (!(decide (v13024.agent = p0_0) && decide (v13024.slot = p1_0)))))))))) else (s_l11Ok_l9 n a0 (IntKind.i64.wrap (p0_0 + 1))))
def s_l11Ok_j13 : Nat → Net → Int → Int → Agent → Bool → Option (Bool)
 | 0, _, _, _, _, _ => none
 | n + 1, a0, p0_0, p1_0, v7005, p2_0 => (if p2_0 = true then (some false) else (s_l11Ok_l12 n a0 p0_0 v7005 (IntKind.i64.wrap (p1_0 + 1))))
end
def s_l11Ok (a0 : Net) : Option (Bool) :=
 (Option.bind (s_l11Agents a0.agents) fun v2004 => (if (!v2004) = true then (some false) else (s_l11Ok_l9 fuel a0 0)))
def s_l13Book_l1 : Nat → (List Net) → Int → Option (Bool)
 | 0, _, _ => none
 | n + 1, a0, p0_0 => (if (decide (p0_0 < ((List.length a0 : Nat) : Int))) = true then (Option.bind (at? a0 p0_0) fun v7002 => (Option.bind (s_l11Ok v7002) fun v7003 => (if (!v7003) = true then (some false) else (s_l13Book_l1 n a0 (IntKind.i64.wrap (p0_0 + 1)))))) else (some true))
def s_l13Book (a0 : List Net) : Option (Bool) :=
 (if (decide (24 < ((List.length a0 : Nat) : Int))) = true then (some false) else (s_l13Book_l1 fuel a0 0))
def s_l15Schedule_l1 : Nat → (List Int) → Int → Option (Bool)
 | 0, _, _ => none
 | n + 1, a0, p0_0 => (if (decide (p0_0 < ((List.length a0 : Nat) : Int))) = true then (Option.bind (at? a0 p0_0) fun v7002 => (Option.bind (s_l00In v7002 0 600) fun v7004 => (if (!v7004) = true then (some false) else (s_l15Schedule_l1 n a0 (IntKind.i64.wrap (p0_0 + 1)))))) else (some true))
def s_l15Schedule (a0 : List Int) : Option (Bool) :=
 (if (decide (200 < ((List.length a0 : Nat) : Int))) = true then (some false) else (s_l15Schedule_l1 fuel a0 0))
def s_l15Counts_l1 : Nat → (List Int) → Int → Option (Bool)
 | 0, _, _ => none
 | n + 1, a0, p0_0 => (if (decide (p0_0 < ((List.length a0 : Nat) : Int))) = true then (Option.bind (at? a0 p0_0) fun v5002 => (Option.bind (s_l00In v5002 0 1000000000) fun v5004 => (if (!v5004) = true then (some false) else (s_l15Counts_l1 n a0 (IntKind.i64.wrap (p0_0 + 1)))))) else (some (decide (((List.length a0 : Nat) : Int) = 7))))
def s_l15Counts (a0 : List Int) : Option (Bool) :=
 (s_l15Counts_l1 fuel a0 0)
def s_l34Sum_l1 : Nat → (List Int) → Int → Int → Option (Int)
 | 0, _, _, _ => none
 | n + 1, a0, p0_0, p0_1 => (if (decide (p0_1 < ((List.length a0 : Nat) : Int))) = true then (Option.bind (at? a0 p0_1) fun v6003 => (s_l34Sum_l1 n a0 (IntKind.i64.wrap (p0_0 + v6003)) (IntKind.i64.wrap (p0_1 + 1)))) else (some p0_0))
def s_l34Sum (a0 : List Int) : Option (Int) :=
 (s_l34Sum_l1 fuel a0 0 0)
def s_l34Most (a0 : Job) : Option (Int) :=
 (if (decide (a0.state = 1)) = true then (Option.bind (s_l34Sum a0.counts) fun v3004 => (some v3004)) else (Option.bind (s_l34Sum a0.counts) fun v4004 => (some (IntKind.i64.wrap (v4004 + 1)))))
def s_l34NoNet (a0 : Net) : Option (Bool) :=
 (some (decide (((List.length a0.agents : Nat) : Int) = 0)))
def s_l34Job_j2 (a0 : Job) (p1_0 : Bool) : Option (Bool) :=
 (if p1_0 = true then (some false) else (if (decide (a0.state = 2)) = true then (Option.bind (s_l11Ok a0.net) fun v9003 => (some v9003)) else (Option.bind (s_l34NoNet a0.net) fun v10003 => (some v10003))))
def s_l34Job_j1 (a0 : Job) (p0_0 : Bool) : Option (Bool) :=
 (if p0_0 = true then (some false) else (if (decide (a0.state = 1)) = true then (Option.bind (s_l15Schedule a0.schedule) fun v5004 => (if v5004 = true then (Option.bind (s_l13Book a0.book) fun v5010 => (if v5010 = true then (Option.bind (s_l11Ok a0.net) fun v5016 => (some v5016)) else (some false))) else (some false))) else (if (decide (0 < ((List.length a0.schedule : Nat) : Int))) = true then (s_l34Job_j2 a0 true) else (s_l34Job_j2 a0 (decide (0 < ((List.length a0.book : Nat) : Int)))))))
def s_l34Job (a0 : Job) : Option (Bool) :=
 (Option.bind (s_l00In a0.weight 1 4) fun v2004 => (if (!v2004) = true then (s_l34Job_j1 a0 true) else (Option.bind (s_l00In a0.state 1 4) fun v2011 => (if (!v2011) = true then (s_l34Job_j1 a0 true) else (Option.bind (s_l00In a0.left 0 4000) fun v2019 => (if (!v2019) = true then (s_l34Job_j1 a0 true) else (Option.bind (s_l15Counts a0.counts) fun v2027 => (if (!v2027) = true then (s_l34Job_j1 a0 true) else (Option.bind (s_l34Sum a0.counts) fun v2035 => (if (decide (4000 < (IntKind.i64.wrap (v2035 + a0.left)))) = true then (s_l34Job_j1 a0 true) else (Option.bind (s_l34Most a0) fun v2049 => (Option.bind (s_l00In a0.slices 0 v2049) fun v2050 => (if (!v2050) = true then (s_l34Job_j1 a0 true) else (Option.bind (s_l00In a0.code 0 14) fun v2058 => (if (!v2058) = true then (s_l34Job_j1 a0 true) else (s_l34Job_j1 a0 (!((decide (a0.state = 3)) == (!decide (a0.code = 0))))))))))))))))))))
mutual
def s_l34Ok_l4 : Nat → Queue → Int → Int → Option (Bool)
 | 0, _, _, _ => none
 | n + 1, a0, p1_0, p1_1 => (if (decide (p1_1 < ((List.length a0.jobs : Nat) : Int))) = true then (Option.bind (at? a0.jobs p1_1) fun v8005 => (Option.bind (s_l00In v8005.id (IntKind.i64.wrap (p1_0 + 1)) (IntKind.i64.wrap (a0.nextId - 1))) fun v8015 => (if (!v8015) = true then (s_l34Ok_j5 n a0 p1_1 true) else (Option.bind (at? a0.jobs p1_1) fun v8023 => (Option.bind (s_l34Job v8023) fun v8024 => (s_l34Ok_j5 n a0 p1_1 (!v8024))))))) else (some true))
def s_l34Ok_j5 : Nat → Queue → Int → Bool → Option (Bool)
 | 0, _, _, _ => none
 | n + 1, a0, p1_1, p2_0 => (if p2_0 = true then (some false) else (Option.bind (at? a0.jobs p1_1) fun v10005 => (s_l34Ok_l4 n a0 v10005.id (IntKind.i64.wrap (p1_1 + 1)))))
end
def s_l34Ok_j1 (a0 : Queue) (p0_0 : Bool) : Option (Bool) :=
 (if p0_0 = true then (some false) else (s_l34Ok_l4 fuel a0 0 0))
def s_l34Ok (a0 : Queue) : Option (Bool) :=
 (Option.bind (s_l00In a0.quantum 1 50) fun v2004 => (if (!v2004) = true then (s_l34Ok_j1 a0 true) else (Option.bind (s_l00In a0.nextId 1 1000000000) fun v2011 => (if (!v2011) = true then (s_l34Ok_j1 a0 true) else (if (decide (6 < ((List.length a0.jobs : Nat) : Int))) = true then (s_l34Ok_j1 a0 true) else (Option.bind (s_l00Max 0 (IntKind.i64.wrap (((List.length a0.jobs : Nat) : Int) - 1))) fun v2033 => (Option.bind (s_l00In a0.turn 0 v2033) fun v2034 => (s_l34Ok_j1 a0 (!v2034)))))))))
def l_szPortS (a0 : List Port) (a1 : Int) : Option (Int) :=
 (if (decide ((IntKind.i64.wrap (a1 - ((List.length a0 : Nat) : Int))) < 0)) = true then (some (-1)) else (some (IntKind.i64.wrap (a1 - ((List.length a0 : Nat) : Int)))))
def l_szAgent (a0 : Agent) (a1 : Int) : Option (Int) :=
 (Option.bind (l_szInt64S a0.data a1) fun v2003 => (if (decide (v2003 < 0)) = true then (some (-1)) else (Option.bind (l_szPortS a0.ports v2003) fun v5003 => (if (decide (v5003 < 0)) = true then (some (-1)) else (some v5003)))))
def l_szAgentS_l1 : Nat → (List Agent) → Int → Int → Option (Int)
 | 0, _, _, _ => none
 | n + 1, a0, p0_0, p0_1 => (if (decide (p0_1 < ((List.length a0 : Nat) : Int))) = true then (Option.bind (at? a0 p0_1) fun v8002 => (Option.bind (l_szAgent v8002 p0_0) fun v8005 => (if (decide (v8005 < 0)) = true then (some (-1)) else (l_szAgentS_l1 n a0 v8005 (IntKind.i64.wrap (p0_1 + 1)))))) else (some p0_0))
def l_szAgentS (a0 : List Agent) (a1 : Int) : Option (Int) :=
 (if (decide ((IntKind.i64.wrap (a1 - ((List.length a0 : Nat) : Int))) < 0)) = true then (some (-1)) else (l_szAgentS_l1 fuel a0 (IntKind.i64.wrap (a1 - ((List.length a0 : Nat) : Int))) 0))
def l_szNet (a0 : Net) (a1 : Int) : Option (Int) :=
 (Option.bind (l_szAgentS a0.agents a1) fun v2003 => (if (decide (v2003 < 0)) = true then (some (-1)) else (some v2003)))
def l_szNetS_l1 : Nat → (List Net) → Int → Int → Option (Int)
 | 0, _, _, _ => none
 | n + 1, a0, p0_0, p0_1 => (if (decide (p0_1 < ((List.length a0 : Nat) : Int))) = true then (Option.bind (at? a0 p0_1) fun v8002 => (Option.bind (l_szNet v8002 p0_0) fun v8005 => (if (decide (v8005 < 0)) = true then (some (-1)) else (l_szNetS_l1 n a0 v8005 (IntKind.i64.wrap (p0_1 + 1)))))) else (some p0_0))
def l_szNetS (a0 : List Net) (a1 : Int) : Option (Int) :=
 (if (decide ((IntKind.i64.wrap (a1 - ((List.length a0 : Nat) : Int))) < 0)) = true then (some (-1)) else (l_szNetS_l1 fuel a0 (IntKind.i64.wrap (a1 - ((List.length a0 : Nat) : Int))) 0))
def l_szJob (a0 : Job) (a1 : Int) : Option (Int) :=
 (Option.bind (l_szInt64S a0.counts a1) fun v2003 => (if (decide (v2003 < 0)) = true then (some (-1)) else (Option.bind (l_szInt64S a0.schedule v2003) fun v5003 => (if (decide (v5003 < 0)) = true then (some (-1)) else (Option.bind (l_szNetS a0.book v5003) fun v8003 => (if (decide (v8003 < 0)) = true then (some (-1)) else (Option.bind (l_szNet a0.net v8003) fun v11003 => (if (decide (v11003 < 0)) = true then (some (-1)) else (some v11003)))))))))
def l_szJobS_l1 : Nat → (List Job) → Int → Int → Option (Int)
 | 0, _, _, _ => none
 | n + 1, a0, p0_0, p0_1 => (if (decide (p0_1 < ((List.length a0 : Nat) : Int))) = true then (Option.bind (at? a0 p0_1) fun v8002 => (Option.bind (l_szJob v8002 p0_0) fun v8005 => (if (decide (v8005 < 0)) = true then (some (-1)) else (l_szJobS_l1 n a0 v8005 (IntKind.i64.wrap (p0_1 + 1)))))) else (some p0_0))
def l_szJobS (a0 : List Job) (a1 : Int) : Option (Int) :=
 (if (decide ((IntKind.i64.wrap (a1 - ((List.length a0 : Nat) : Int))) < 0)) = true then (some (-1)) else (l_szJobS_l1 fuel a0 (IntKind.i64.wrap (a1 - ((List.length a0 : Nat) : Int))) 0))
def l_szQueue (a0 : Queue) (a1 : Int) : Option (Int) :=
 (Option.bind (l_szJobS a0.jobs a1) fun v2003 => (if (decide (v2003 < 0)) = true then (some (-1)) else (some v2003)))
def l_toPort (a0 : Port) : Option (Port) :=
 (some a0)
def l_toPortS_l2 : Nat → (List Port) → (List Port) → Int → Option ((List Port))
 | 0, _, _, _ => none
 | n + 1, a0, p1_0, p1_1 => (if (decide (p1_1 < ((List.length a0 : Nat) : Int))) = true then (Option.bind (at? a0 p1_1) fun v6004 => (Option.bind (l_toPort v6004) fun v6006 => (Option.bind (at? p1_0 p1_1) fun v6007 => (Option.bind (set1? p1_0 p1_1 v6006) fun v6008_12 => (l_toPortS_l2 n a0 v6008_12 (IntKind.i64.wrap (p1_1 + 1))))))) else (some p1_0))
def l_toPortS (a0 : List Port) : Option ((List Port)) :=
 (Option.bind (rep? ((List.length a0 : Nat) : Int) (⟨0, 0⟩ : Port)) fun v2002 => (l_toPortS_l2 fuel a0 v2002 0))
def l_toAgent (a0 : Agent) : Option (Agent) :=
 (Option.bind (l_toInt64S a0.data) fun v6002 => (Option.bind (l_toPortS a0.ports) fun v7002 => (some (⟨a0.kind, a0.level, a0.value, v6002, v7002⟩ : Agent))))
def l_toAgentS_l2 : Nat → (List Agent) → (List Agent) → Int → Option ((List Agent))
 | 0, _, _, _ => none
 | n + 1, a0, p1_0, p1_1 => (if (decide (p1_1 < ((List.length a0 : Nat) : Int))) = true then (Option.bind (at? a0 p1_1) fun v6004 => (Option.bind (l_toAgent v6004) fun v6006 => (Option.bind (at? p1_0 p1_1) fun v6007 => (Option.bind (set1? p1_0 p1_1 v6006) fun v6008_12 => (l_toAgentS_l2 n a0 v6008_12 (IntKind.i64.wrap (p1_1 + 1))))))) else (some p1_0))
def l_toAgentS (a0 : List Agent) : Option ((List Agent)) :=
 (Option.bind (rep? ((List.length a0 : Nat) : Int) (⟨0, 0, 0, [], []⟩ : Agent)) fun v2002 => (l_toAgentS_l2 fuel a0 v2002 0))
def l_toNet (a0 : Net) : Option (Net) :=
 (Option.bind (l_toAgentS a0.agents) fun v3002 => (some (⟨v3002⟩ : Net)))
def l_toNetS_l2 : Nat → (List Net) → (List Net) → Int → Option ((List Net))
 | 0, _, _, _ => none
 | n + 1, a0, p1_0, p1_1 => (if (decide (p1_1 < ((List.length a0 : Nat) : Int))) = true then (Option.bind (at? a0 p1_1) fun v6004 => (Option.bind (l_toNet v6004) fun v6006 => (Option.bind (at? p1_0 p1_1) fun v6007 => (Option.bind (set1? p1_0 p1_1 v6006) fun v6008_12 => (l_toNetS_l2 n a0 v6008_12 (IntKind.i64.wrap (p1_1 + 1))))))) else (some p1_0))
def l_toNetS (a0 : List Net) : Option ((List Net)) :=
 (Option.bind (rep? ((List.length a0 : Nat) : Int) (⟨[]⟩ : Net)) fun v2002 => (l_toNetS_l2 fuel a0 v2002 0))
def l_toJob (a0 : Job) : Option (Job) :=
 (Option.bind (l_toInt64S a0.counts) fun v9002 => (Option.bind (l_toInt64S a0.schedule) fun v10002 => (Option.bind (l_toNetS a0.book) fun v11002 => (Option.bind (l_toNet a0.net) fun v12002 => (some (⟨a0.id, a0.weight, a0.state, a0.code, a0.left, a0.slices, v9002, v10002, v11002, v12002⟩ : Job))))))
def l_toJobS_l2 : Nat → (List Job) → (List Job) → Int → Option ((List Job))
 | 0, _, _, _ => none
 | n + 1, a0, p1_0, p1_1 => (if (decide (p1_1 < ((List.length a0 : Nat) : Int))) = true then (Option.bind (at? a0 p1_1) fun v6004 => (Option.bind (l_toJob v6004) fun v6006 => (Option.bind (at? p1_0 p1_1) fun v6007 => (Option.bind (set1? p1_0 p1_1 v6006) fun v6008_12 => (l_toJobS_l2 n a0 v6008_12 (IntKind.i64.wrap (p1_1 + 1))))))) else (some p1_0))
def l_toJobS (a0 : List Job) : Option ((List Job)) :=
 (Option.bind (rep? ((List.length a0 : Nat) : Int) (⟨0, 0, 0, 0, 0, 0, [], [], [], (⟨[]⟩ : Net)⟩ : Job)) fun v2002 => (l_toJobS_l2 fuel a0 v2002 0))
def l_toQueue (a0 : Queue) : Option (Queue) :=
 (Option.bind (l_toJobS a0.jobs) fun v6002 => (some (⟨a0.quantum, a0.nextId, a0.turn, v6002⟩ : Queue)))
def l_eqPort (a0 : Port) (a1 : Port) : Option (Bool) :=
 (if (!decide (a0.agent = a1.agent)) = true then (some false) else (if (!decide (a0.slot = a1.slot)) = true then (some false) else (some true)))
def l_eqPortS_l1 : Nat → (List Port) → (List Port) → Int → Option (Bool)
 | 0, _, _, _ => none
 | n + 1, a0, a1, p0_0 => (if (decide (p0_0 < ((List.length a0 : Nat) : Int))) = true then (Option.bind (at? a0 p0_0) fun v7002 => (Option.bind (at? a1 p0_0) fun v7006 => (Option.bind (l_eqPort v7002 v7006) fun v7008 => (if (!v7008) = true then (some false) else (l_eqPortS_l1 n a0 a1 (IntKind.i64.wrap (p0_0 + 1))))))) else (some true))
def l_eqPortS (a0 : List Port) (a1 : List Port) : Option (Bool) :=
 (if (!decide (((List.length a0 : Nat) : Int) = ((List.length a1 : Nat) : Int))) = true then (some false) else (l_eqPortS_l1 fuel a0 a1 0))
def l_eqAgent (a0 : Agent) (a1 : Agent) : Option (Bool) :=
 (if (!decide (a0.kind = a1.kind)) = true then (some false) else (if (!decide (a0.level = a1.level)) = true then (some false) else (if (!decide (a0.value = a1.value)) = true then (some false) else (Option.bind (l_eqInt64S a0.data a1.data) fun v8004 => (if (!v8004) = true then (some false) else (Option.bind (l_eqPortS a0.ports a1.ports) fun v10004 => (if (!v10004) = true then (some false) else (some true))))))))
def l_eqAgentS_l1 : Nat → (List Agent) → (List Agent) → Int → Option (Bool)
 | 0, _, _, _ => none
 | n + 1, a0, a1, p0_0 => (if (decide (p0_0 < ((List.length a0 : Nat) : Int))) = true then (Option.bind (at? a0 p0_0) fun v7002 => (Option.bind (at? a1 p0_0) fun v7006 => (Option.bind (l_eqAgent v7002 v7006) fun v7008 => (if (!v7008) = true then (some false) else (l_eqAgentS_l1 n a0 a1 (IntKind.i64.wrap (p0_0 + 1))))))) else (some true))
def l_eqAgentS (a0 : List Agent) (a1 : List Agent) : Option (Bool) :=
 (if (!decide (((List.length a0 : Nat) : Int) = ((List.length a1 : Nat) : Int))) = true then (some false) else (l_eqAgentS_l1 fuel a0 a1 0))
def l_eqNet (a0 : Net) (a1 : Net) : Option (Bool) :=
 (Option.bind (l_eqAgentS a0.agents a1.agents) fun v2004 => (if (!v2004) = true then (some false) else (some true)))
def l_eqNetS_l1 : Nat → (List Net) → (List Net) → Int → Option (Bool)
 | 0, _, _, _ => none
 | n + 1, a0, a1, p0_0 => (if (decide (p0_0 < ((List.length a0 : Nat) : Int))) = true then (Option.bind (at? a0 p0_0) fun v7002 => (Option.bind (at? a1 p0_0) fun v7006 => (Option.bind (l_eqNet v7002 v7006) fun v7008 => (if (!v7008) = true then (some false) else (l_eqNetS_l1 n a0 a1 (IntKind.i64.wrap (p0_0 + 1))))))) else (some true))
def l_eqNetS (a0 : List Net) (a1 : List Net) : Option (Bool) :=
 (if (!decide (((List.length a0 : Nat) : Int) = ((List.length a1 : Nat) : Int))) = true then (some false) else (l_eqNetS_l1 fuel a0 a1 0))
def l_eqJob (a0 : Job) (a1 : Job) : Option (Bool) :=
 (if (!decide (a0.id = a1.id)) = true then (some false) else (if (!decide (a0.weight = a1.weight)) = true then (some false) else (if (!decide (a0.state = a1.state)) = true then (some false) else (if (!decide (a0.code = a1.code)) = true then (some false) else (if (!decide (a0.left = a1.left)) = true then (some false) else (if (!decide (a0.slices = a1.slices)) = true then (some false) else (Option.bind (l_eqInt64S a0.counts a1.counts) fun v14004 => (if (!v14004) = true then (some false) else (Option.bind (l_eqInt64S a0.schedule a1.schedule) fun v16004 => (if (!v16004) = true then (some false) else (Option.bind (l_eqNetS a0.book a1.book) fun v18004 => (if (!v18004) = true then (some false) else (Option.bind (l_eqNet a0.net a1.net) fun v20004 => (if (!v20004) = true then (some false) else (some true)))))))))))))))
def l_eqJobS_l1 : Nat → (List Job) → (List Job) → Int → Option (Bool)
 | 0, _, _, _ => none
 | n + 1, a0, a1, p0_0 => (if (decide (p0_0 < ((List.length a0 : Nat) : Int))) = true then (Option.bind (at? a0 p0_0) fun v7002 => (Option.bind (at? a1 p0_0) fun v7006 => (Option.bind (l_eqJob v7002 v7006) fun v7008 => (if (!v7008) = true then (some false) else (l_eqJobS_l1 n a0 a1 (IntKind.i64.wrap (p0_0 + 1))))))) else (some true))
def l_eqJobS (a0 : List Job) (a1 : List Job) : Option (Bool) :=
 (if (!decide (((List.length a0 : Nat) : Int) = ((List.length a1 : Nat) : Int))) = true then (some false) else (l_eqJobS_l1 fuel a0 a1 0))
def l_eqQueue (a0 : Queue) (a1 : Queue) : Option (Bool) :=
 (if (!decide (a0.quantum = a1.quantum)) = true then (some false) else (if (!decide (a0.nextId = a1.nextId)) = true then (some false) else (if (!decide (a0.turn = a1.turn)) = true then (some false) else (Option.bind (l_eqJobS a0.jobs a1.jobs) fun v8004 => (if (!v8004) = true then (some false) else (some true))))))
def l_markJobS_l1 : Nat → (List Job) → Int → Int → Option (Int × (List Job))
 | 0, _, _, _ => none
 | n + 1, p0_0, p0_1, p0_2 => (if (decide (p0_2 < ((List.length p0_0 : Nat) : Int))) = true then (Option.bind (at? p0_0 p0_2) fun v5003 => (Option.bind (set1? p0_0 p0_2 (⟨p0_1, v5003.weight, v5003.state, v5003.code, v5003.left, v5003.slices, v5003.counts, v5003.schedule, v5003.book, v5003.net⟩ : Job)) fun v5005_92 => (Option.bind (at? v5005_92 p0_2) fun v7003 => (Option.bind (set1? v5005_92 p0_2 (⟨v7003.id, (IntKind.i64.wrap (p0_1 + 1)), v7003.state, v7003.code, v7003.left, v7003.slices, v7003.counts, v7003.schedule, v7003.book, v7003.net⟩ : Job)) fun v7005_93 => (Option.bind (at? v7005_93 p0_2) fun v9003 => (Option.bind (set1? v7005_93 p0_2 (⟨v9003.id, v9003.weight, (IntKind.i64.wrap ((IntKind.i64.wrap (p0_1 + 1)) + 1)), v9003.code, v9003.left, v9003.slices, v9003.counts, v9003.schedule, v9003.book, v9003.net⟩ : Job)) fun v9005_94 => (Option.bind (at? v9005_94 p0_2) fun v11003 => (Option.bind (set1? v9005_94 p0_2 (⟨v11003.id, v11003.weight, v11003.state, (IntKind.i64.wrap ((IntKind.i64.wrap ((IntKind.i64.wrap (p0_1 + 1)) + 1)) + 1)), v11003.left, v11003.slices, v11003.counts, v11003.schedule, v11003.book, v11003.net⟩ : Job)) fun v11005_95 => (Option.bind (at? v11005_95 p0_2) fun v13003 => (Option.bind (set1? v11005_95 p0_2 (⟨v13003.id, v13003.weight, v13003.state, v13003.code, (IntKind.i64.wrap ((IntKind.i64.wrap ((IntKind.i64.wrap ((IntKind.i64.wrap (p0_1 + 1)) + 1)) + 1)) + 1)), v13003.slices, v13003.counts, v13003.schedule, v13003.book, v13003.net⟩ : Job)) fun v13005_96 => (Option.bind (at? v13005_96 p0_2) fun v15003 => (Option.bind (set1? v13005_96 p0_2 (⟨v15003.id, v15003.weight, v15003.state, v15003.code, v15003.left, (IntKind.i64.wrap ((IntKind.i64.wrap ((IntKind.i64.wrap ((IntKind.i64.wrap ((IntKind.i64.wrap (p0_1 + 1)) + 1)) + 1)) + 1)) + 1)), v15003.counts, v15003.schedule, v15003.book, v15003.net⟩ : Job)) fun v15005_97 => (Option.bind (at? v15005_97 p0_2) fun v17002 => (Option.bind (l_markInt64S v17002.counts (IntKind.i64.wrap ((IntKind.i64.wrap ((IntKind.i64.wrap ((IntKind.i64.wrap ((IntKind.i64.wrap ((IntKind.i64.wrap (p0_1 + 1)) + 1)) + 1)) + 1)) + 1)) + 1))) fun v17006 => (Option.bind (set1? v15005_97 p0_2 (⟨v17002.id, v17002.weight, v17002.state, v17002.code, v17002.left, v17002.slices, v17006.2, v17002.schedule, v17002.book, v17002.net⟩ : Job)) fun v17006_99 => (Option.bind (at? v17006_99 p0_2) fun v18002 => (Option.bind (l_markInt64S v18002.schedule v17006.1) fun v18006 => (Option.bind (set1? v17006_99 p0_2 (⟨v18002.id, v18002.weight, v18002.state, v18002.code, v18002.left, v18002.slices, v18002.counts, v18006.2, v18002.book, v18002.net⟩ : Job)) fun v18006_101 => (Option.bind (at? v18006_101 p0_2) fun v19002 => (Option.bind (l_markNetS v19002.book v18006.1) fun v19006 => (Option.bind (set1? v18006_101 p0_2 (⟨v19002.id, v19002.weight, v19002.state, v19002.code, v19002.left, v19002.slices, v19002.counts, v19002.schedule, v19006.2, v19002.net⟩ : Job)) fun v19006_103 => (Option.bind (at? v19006_103 p0_2) fun v20002 => (Option.bind (l_markAgentS v20002.net.agents v19006.1) fun v20007 => (Option.bind (set1? v19006_103 p0_2 (⟨v20002.id, v20002.weight, v20002.state, v20002.code, v20002.left, v20002.slices, v20002.counts, v20002.schedule, v20002.book, (⟨v20007.2⟩ : Net)⟩ : Job)) fun v20007_104 => (l_markJobS_l1 n v20007_104 v20007.1 (IntKind.i64.wrap (p0_2 + 1))))))))))))))))))))))))))) else (some (p0_1, p0_0)))
def l_markJobS (a0 : List Job) (a1 : Int) : Option (Int × (List Job)) :=
 (l_markJobS_l1 fuel a0 a1 0)
def l_markQueue (a0 : Queue) (a1 : Int) : Option (Int × (List Job)) :=
 (Option.bind (l_markJobS a0.jobs a1) fun v2003 => (some (v2003.1, v2003.2)))
def l_heldJobS_l1 : Nat → (List Job) → Int → Int → Option (Int)
 | 0, _, _, _ => none
 | n + 1, a0, p0_0, p0_1 => (if (decide (p0_1 < ((List.length a0 : Nat) : Int))) = true then (Option.bind (at? a0 p0_1) fun v5002 => (if (!decide (v5002.id = p0_0)) = true then (some (-1)) else (Option.bind (at? a0 p0_1) fun v8002 => (if (!decide (v8002.weight = (IntKind.i64.wrap (p0_0 + 1)))) = true then (some (-1)) else (Option.bind (at? a0 p0_1) fun v11002 => (if (!decide (v11002.state = (IntKind.i64.wrap ((IntKind.i64.wrap (p0_0 + 1)) + 1)))) = true then (some (-1)) else (Option.bind (at? a0 p0_1) fun v14002 => (if (!decide (v14002.code = (IntKind.i64.wrap ((IntKind.i64.wrap ((IntKind.i64.wrap (p0_0 + 1)) + 1)) + 1)))) = true then (some (-1)) else (Option.bind (at? a0 p0_1) fun v17002 => (if (!decide (v17002.left = (IntKind.i64.wrap ((IntKind.i64.wrap ((IntKind.i64.wrap ((IntKind.i64.wrap (p0_0 + 1)) + 1)) + 1)) + 1)))) = true then (some (-1)) else (Option.bind (at? a0 p0_1) fun v20002 => (if (!decide (v20002.slices = (IntKind.i64.wrap ((IntKind.i64.wrap ((IntKind.i64.wrap ((IntKind.i64.wrap ((IntKind.i64.wrap (p0_0 + 1)) + 1)) + 1)) + 1)) + 1)))) = true then (some (-1)) else (Option.bind (at? a0 p0_1) fun v23002 => (Option.bind (l_heldInt64S v23002.counts (IntKind.i64.wrap ((IntKind.i64.wrap ((IntKind.i64.wrap ((IntKind.i64.wrap ((IntKind.i64.wrap ((IntKind.i64.wrap (p0_0 + 1)) + 1)) + 1)) + 1)) + 1)) + 1))) fun v23006 => (if (decide (v23006 < 0)) = true then (some (-1)) else (Option.bind (at? a0 p0_1) fun v26002 => (Option.bind (l_heldInt64S v26002.schedule v23006) fun v26006 => (if (decide (v26006 < 0)) = true then (some (-1)) else (Option.bind (at? a0 p0_1) fun v29002 => (Option.bind (l_heldNetS v29002.book v26006) fun v29006 => (if (decide (v29006 < 0)) = true then (some (-1)) else (Option.bind (at? a0 p0_1) fun v32002 => (Option.bind (l_heldAgentS v32002.net.agents v29006) fun v32007 => (if (decide (v32007 < 0)) = true then (some (-1)) else (l_heldJobS_l1 n a0 v32007 (IntKind.i64.wrap (p0_1 + 1))))))))))))))))))))))))))) else (some p0_0))
def l_heldJobS (a0 : List Job) (a1 : Int) : Option (Int) :=
 (l_heldJobS_l1 fuel a0 a1 0)
def l_heldQueue (a0 : Queue) (a1 : Int) : Option (Int) :=
 (Option.bind (l_heldJobS a0.jobs a1) fun v2003 => (if (decide (v2003 < 0)) = true then (some (-1)) else (some v2003)))
end Go.Proofs.YtckcfdggbbabfaaGreat.Ab
