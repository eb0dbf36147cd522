/-
  Models of the functions. Printed by wip/ab/gen.py.
-/
import Derived.Test.YtocpkbclcnjejaaModB
namespace Go.Proofs.Ytocpkbclcnjejaa.Ab
set_option linter.unusedVariables false
set_option linter.unusedSimpArgs false
set_option maxRecDepth 20000
set_option maxHeartbeats 4000000
open Go.RowKit

def l_szNetS_l1 : Nat → (List Net) → Int → Int → Option (Int)
  | 0, _, _, _ => none
  | n + 1, a0, p0_0, p0_1 => (if (decide (p0_1 < ((List.length a0 : Nat) : Int))) = true then (Option.bind (at? a0 p0_1) fun v8002 => (Option.bind (l_szNet v8002 p0_0) fun v8005 => (if (decide (v8005 < 0)) = true then (some (-1)) else (l_szNetS_l1 n a0 v8005 (IntKind.i64.wrap (p0_1 + 1)))))) else (some p0_0))
def l_szNetS (a0 : List Net) (a1 : Int) : Option (Int) :=
  (if (decide ((IntKind.i64.wrap (a1 - ((List.length a0 : Nat) : Int))) < 0)) = true then (some (-1)) else (l_szNetS_l1 fuel a0 (IntKind.i64.wrap (a1 - ((List.length a0 : Nat) : Int))) 0))
def s_l13Book_l1 : Nat → (List Net) → Int → Option (Bool)
  | 0, _, _ => none
  | n + 1, a0, p0_0 => (if (decide (p0_0 < ((List.length a0 : Nat) : Int))) = true then (Option.bind (at? a0 p0_0) fun v7002 => (Option.bind (s_l11Ok v7002) fun v7003 => (if (!v7003) = true then (some false) else (s_l13Book_l1 n a0 (IntKind.i64.wrap (p0_0 + 1)))))) else (some true))
def s_l13Book (a0 : List Net) : Option (Bool) :=
  (if (decide (24 < ((List.length a0 : Nat) : Int))) = true then (some false) else (s_l13Book_l1 fuel a0 0))
def s_EncodeTemplates_l2 : Nat → (List Net) → (List Int) → Int → Option ((List Int) × Int)
  | 0, _, _, _ => none
  | n + 1, a0, p1_0, p1_1 => (if (decide (p1_1 < ((List.length a0 : Nat) : Int))) = true then (Option.bind (at? a0 p1_1) fun v8003 => (Option.bind (s_l33PutNet p1_0 v8003) fun v8004 => (s_EncodeTemplates_l2 n a0 v8004 (IntKind.i64.wrap (p1_1 + 1))))) else (Option.bind (s_l33Close 2 p1_0) fun v9001 => (some (v9001.1, v9001.2))))
def s_EncodeTemplates (a0 : List Net) : Option ((List Int) × Int) :=
  (Option.bind (s_l13Book a0) fun v2001 => (if (!v2001) = true then (some ([], 1)) else (Option.bind (s_l33Number [] ((List.length a0 : Nat) : Int)) fun v4003 => (s_EncodeTemplates_l2 fuel a0 v4003 0))))
def l_toNetS_l2 : Nat → (List Net) → (List Net) → Int → Option ((List Net))
  | 0, _, _, _ => none
  | n + 1, a0, p1_0, p1_1 => (if (decide (p1_1 < ((List.length a0 : Nat) : Int))) = true then (Option.bind (at? a0 p1_1) fun v6004 => (Option.bind (l_toNet v6004) fun v6006 => (Option.bind (at? p1_0 p1_1) fun v6007 => (Option.bind (set1? p1_0 p1_1 v6006) fun v6008_12 => (l_toNetS_l2 n a0 v6008_12 (IntKind.i64.wrap (p1_1 + 1))))))) else (some p1_0))
def l_toNetS (a0 : List Net) : Option ((List Net)) :=
  (Option.bind (rep? ((List.length a0 : Nat) : Int) (⟨[]⟩ : Net)) fun v2002 => (l_toNetS_l2 fuel a0 v2002 0))
def g_IndexFunc_simpl_Net_l1 : Nat → (List Net) → Int → (Net → Option Bool) → Option (Int)
  | 0, _, _, _ => none
  | n + 1, a0, p0_0, f1 => (if (decide (p0_0 < ((List.length a0 : Nat) : Int))) = true then (Option.bind (at? a0 p0_0) fun v5003 => (Option.bind (f1 v5003) fun v5005 => (if v5005 = true then (some p0_0) else (g_IndexFunc_simpl_Net_l1 n a0 (IntKind.i64.wrap (p0_0 + 1)) f1)))) else (some (-1)))
def g_IndexFunc_simpl_Net (a0 : List Net) (f1 : (Net → Option Bool)) : Option (Int) :=
  (g_IndexFunc_simpl_Net_l1 fuel a0 0 f1)
def g_ContainsFunc_simpl_Net (a0 : List Net) (f1 : (Net → Option Bool)) : Option (Bool) :=
  (Option.bind (g_IndexFunc_simpl_Net a0 f1) fun v2002 => (some (decide (0 ≤ v2002))))
def i_ValidTemplates_1 (a0 : Net) : Option (Bool) :=
  (Option.bind (i_ValidNet a0) fun v2001 => (some (!v2001)))
def i_ValidTemplates (a0 : List Net) : Option (Bool) :=
  (if (decide (((List.length a0 : Nat) : Int) ≤ 24)) = true then (Option.bind (g_ContainsFunc_simpl_Net a0 (fun y0 => i_ValidTemplates_1 y0)) fun v2005 => (some (!v2005))) else (some false))
def i_EncodeTemplates_l2 : Nat → (List Net) → (List Int) → Int → Option ((List Int) × Int)
  | 0, _, _, _ => none
  | n + 1, a0, p1_0, p1_1 => (if (decide (p1_1 < ((List.length a0 : Nat) : Int))) = true then (Option.bind (at? a0 p1_1) fun v7000 => (Option.bind (i_appendNet p1_0 v7000) fun v8002 => (i_EncodeTemplates_l2 n a0 v8002 (IntKind.i64.wrap (p1_1 + 1))))) else (Option.bind (i_framed 2 p1_0) fun v10001 => (some (v10001.1, v10001.2))))
def i_EncodeTemplates (a0 : List Net) : Option ((List Int) × Int) :=
  (Option.bind (i_ValidTemplates a0) fun v2001 => (if (!v2001) = true then (some ([], 1)) else (Option.bind (i_appendNumber [] ((List.length a0 : Nat) : Int)) fun v4002 => (i_EncodeTemplates_l2 fuel a0 v4002 0))))
def l_eqNetS_l1 : Nat → (List Net) → (List Net) → Int → Option (Bool)
  | 0, _, _, _ => none
  | n + 1, a0, a1, p0_0 => (if (decide (p0_0 < ((List.length a0 : Nat) : Int))) = true then (Option.bind (at? a0 p0_0) fun v7002 => (Option.bind (at? a1 p0_0) fun v7006 => (Option.bind (l_eqNet v7002 v7006) fun v7008 => (if (!v7008) = true then (some false) else (l_eqNetS_l1 n a0 a1 (IntKind.i64.wrap (p0_0 + 1))))))) else (some true))
def l_eqNetS (a0 : List Net) (a1 : List Net) : Option (Bool) :=
  (if (!decide (((List.length a0 : Nat) : Int) = ((List.length a1 : Nat) : Int))) = true then (some false) else (l_eqNetS_l1 fuel a0 a1 0))
def l_markNetS_l1 : Nat → (List Net) → Int → Int → Option (Int × (List Net))
  | 0, _, _, _ => none
  | n + 1, p0_0, p0_1, p0_2 => (if (decide (p0_2 < ((List.length p0_0 : Nat) : Int))) = true then (Option.bind (at? p0_0 p0_2) fun v5002 => (Option.bind (l_markAgentS v5002.agents p0_1) fun v5006 => (Option.bind (set1? p0_0 p0_2 (⟨v5006.2⟩ : Net)) fun v5006_8 => (l_markNetS_l1 n v5006_8 v5006.1 (IntKind.i64.wrap (p0_2 + 1)))))) else (some (p0_1, p0_0)))
def l_markNetS (a0 : List Net) (a1 : Int) : Option (Int × (List Net)) :=
  (l_markNetS_l1 fuel a0 a1 0)
def l_FnExactEncodeTemplates_j3 (v18002 : Int × (List Int)) (p2_0 : Bool) : Option (Bool) :=
  (if p2_0 = true then (some false) else (Option.bind (l_heldByteS v18002.2 1) fun v29002 => (if (decide (v29002 < 0)) = true then (some false) else (if (!decide (v29002 = v18002.1)) = true then (some false) else (some true)))))
def l_FnExactEncodeTemplates_j2 (a0 : List Net) (v6002 : (List Int) × Int) (v8001 : (List Int) × Int) (p1_0 : Bool) : Option (Bool) :=
  (if p1_0 = true then (some false) else (Option.bind (l_markByteS v8001.1 1) fun v18002 => (Option.bind (l_heldByteS v18002.2 1) fun v20002 => (if (decide (v20002 < 0)) = true then (some false) else (if (!decide (v20002 = v18002.1)) = true then (some false) else (Option.bind (l_toNetS a0) fun v25001 => (Option.bind (i_EncodeTemplates v25001) fun v25002 => (Option.bind (l_eqByteS v25002.1 v6002.1) fun v26002 => (if (!v26002) = true then (l_FnExactEncodeTemplates_j3 v18002 true) else (l_FnExactEncodeTemplates_j3 v18002 (!decide (v25002.2 = v6002.2))))))))))))
def l_FnExactEncodeTemplates_j1 (a0 : List Net) (v6002 : (List Int) × Int) (v7001 : (List Net)) (v8001 : (List Int) × Int) (p0_0 : Bool) : Option (Bool) :=
  (if p0_0 = true then (some false) else (Option.bind (l_toNetS a0) fun v11002 => (Option.bind (l_eqNetS v7001 v11002) fun v11003 => (if (!v11003) = true then (some false) else (Option.bind (l_markNetS v7001 1) fun v14002 => (if (decide (v14002.1 < 0)) = true then (l_FnExactEncodeTemplates_j2 a0 v6002 v8001 true) else (Option.bind (l_eqByteS v8001.1 v6002.1) fun v15005 => (if (!v15005) = true then (l_FnExactEncodeTemplates_j2 a0 v6002 v8001 true) else (l_FnExactEncodeTemplates_j2 a0 v6002 v8001 (!decide (v8001.2 = v6002.2)))))))))))
def l_FnExactEncodeTemplates (a0 : List Net) : Option (Bool) :=
  (Option.bind (l_szNetS a0 1048576) fun v3002 => (if (decide (v3002 < 0)) = true then (some true) else (Option.bind (l_toNetS a0) fun v6001 => (Option.bind (s_EncodeTemplates v6001) fun v6002 => (Option.bind (l_toNetS a0) fun v7001 => (Option.bind (i_EncodeTemplates v7001) fun v8001 => (Option.bind (l_eqByteS v8001.1 v6002.1) fun v9002 => (if (!v9002) = true then (l_FnExactEncodeTemplates_j1 a0 v6002 v7001 v8001 true) else (l_FnExactEncodeTemplates_j1 a0 v6002 v7001 v8001 (!decide (v8001.2 = v6002.2)))))))))))
end Go.Proofs.Ytocpkbclcnjejaa.Ab
