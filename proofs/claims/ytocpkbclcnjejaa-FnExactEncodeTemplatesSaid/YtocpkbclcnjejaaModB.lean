/-
  Models of the functions. Printed by wip/ab/gen.py.
-/
import Derived.Test.YtocpkbclcnjejaaMTyB
import Derived.Test.YtocpkbclcnjejaaModC
namespace Go.Proofs.Ytocpkbclcnjejaa.Ab
set_option linter.unusedVariables false
set_option linter.unusedSimpArgs false
set_option maxRecDepth 20000
set_option maxHeartbeats 4000000
open Go.RowKit

def s_l11Before (a0 : Port) (a1 : Port) : Option (Bool) :=
  (if (decide (a0.agent < a1.agent)) = true then (some true) else (if (decide (a0.agent = a1.agent)) = true then (some (decide (a0.slot < a1.slot))) else (some false)))
mutual
def s_l11Wires_l12 : Nat → Net → (List Wire) → Int → Option ((List Wire))
  | 0, _, _, _ => none
  | n + 1, a0, p3_0, p3_1 => (if (decide (p3_1 < ((List.length a0.agents : Nat) : Int))) = true then (s_l11Wires_l14 n a0 p3_1 p3_0 0) else (some p3_0))
def s_l11Wires_l14 : Nat → Net → Int → (List Wire) → Int → Option ((List Wire))
  | 0, _, _, _, _ => none
  | n + 1, a0, p3_1, p5_0, p5_1 => (Option.bind (at? a0.agents p3_1) fun v7006 => (if (decide (p5_1 < ((List.length v7006.ports : Nat) : Int))) = true then (Option.bind (at? a0.agents p3_1) fun v10006 => (Option.bind (at? v10006.ports p5_1) fun v10010 => (Option.bind (s_l11Before (⟨p3_1, p5_1⟩ : Port) v10010) fun v10012 => (if v10012 = true then (Option.bind (at? a0.agents p3_1) fun v11007 => (Option.bind (at? v11007.ports p5_1) fun v11011 => (Option.bind (app? p5_0 [(⟨(⟨p3_1, p5_1⟩ : Port), v11011⟩ : Wire)]) fun v11015 => (s_l11Wires_l14 n a0 p3_1 v11015 (IntKind.i64.wrap (p5_1 + 1)))))) else (s_l11Wires_l14 n a0 p3_1 p5_0 (IntKind.i64.wrap (p5_1 + 1))))))) else (s_l11Wires_l12 n a0 p5_0 (IntKind.i64.wrap (p3_1 + 1)))))
end
def s_l11Wires (a0 : Net) : Option ((List Wire)) :=
  (s_l11Wires_l12 fuel a0 [] 0)
def s_l33PutNet_l44 : Nat → (List Wire) → (List Int) → Int → Option ((List Int))
  | 0, _, _, _ => none
  | n + 1, v25001, p15_0, p15_1 => (if (decide (p15_1 < ((List.length v25001 : Nat) : Int))) = true then (Option.bind (at? v25001 p15_1) fun v29003 => (Option.bind (at? v25001 p15_1) fun v29010 => (Option.bind (s_l33Number p15_0 v29003.b.agent) fun v29007 => (Option.bind (app? v29007 [(IntKind.u8.wrap v29010.b.slot)]) fun v29016 => (s_l33PutNet_l44 n v25001 v29016 (IntKind.i64.wrap (p15_1 + 1))))))) else (some p15_0))
mutual
def s_l33PutNet_l37 : Nat → Net → (List Int) → Int → Option ((List Int))
  | 0, _, _, _ => none
  | n + 1, a1, p8_0, p8_1 => (if (decide (p8_1 < ((List.length a1.agents : Nat) : Int))) = true then (Option.bind (at? a1.agents p8_1) fun v6005 => (Option.bind (app? p8_0 [(IntKind.u8.wrap v6005.kind)]) fun v7007 => (Option.bind (s_HasLevel v6005.kind) fun v8004 => (if v8004 = true then (Option.bind (app? v7007 [(IntKind.u8.wrap v6005.level)]) fun v9007 => (s_l33PutNet_j38 n a1 p8_1 v6005 v9007)) else (s_l33PutNet_j38 n a1 p8_1 v6005 v7007))))) else (Option.bind (s_l11Wires a1) fun v25001 => (s_l33PutNet_l44 fuel v25001 p8_0 0)))
def s_l33PutNet_j38 : Nat → Net → Int → Agent → (List Int) → Option ((List Int))
  | 0, _, _, _, _ => none
  | n + 1, a1, p8_1, v6005, p9_0 => (if (decide (v6005.kind = 6)) = true then (s_l33PutNet_j39 n a1 p8_1 p9_0 v6005 (decide (v6005.kind = 6))) else (if (decide (v6005.kind = 7)) = true then (s_l33PutNet_j39 n a1 p8_1 p9_0 v6005 (decide (v6005.kind = 7))) else (if (decide (v6005.kind = 8)) = true then (s_l33PutNet_j39 n a1 p8_1 p9_0 v6005 (decide (v6005.kind = 8))) else (if (decide (v6005.kind = 12)) = true then (s_l33PutNet_j39 n a1 p8_1 p9_0 v6005 (decide (v6005.kind = 12))) else (s_l33PutNet_j39 n a1 p8_1 p9_0 v6005 (decide (v6005.kind = 9)))))))
def s_l33PutNet_j39 : Nat → Net → Int → (List Int) → Agent → Bool → Option ((List Int))
  | 0, _, _, _, _, _ => none
  | n + 1, a1, p8_1, p9_0, v6005, p10_0 => (if p10_0 = true then (Option.bind (s_l33Number p9_0 v6005.value) fun v16005 => (s_l33PutNet_j40 n a1 p8_1 v6005 v16005)) else (if (decide (v6005.kind = 10)) = true then (Option.bind (app? p9_0 [(IntKind.u8.wrap ((List.length v6005.data : Nat) : Int))]) fun v18008 => (s_l33PutNet_j40 n a1 p8_1 v6005 v18008)) else (s_l33PutNet_j40 n a1 p8_1 v6005 p9_0)))
def s_l33PutNet_j40 : Nat → Net → Int → Agent → (List Int) → Option ((List Int))
  | 0, _, _, _, _ => none
  | n + 1, a1, p8_1, v6005, p11_0 => (s_l33PutNet_l46 n a1 p8_1 v6005 p11_0 0)
def s_l33PutNet_l46 : Nat → Net → Int → Agent → (List Int) → Int → Option ((List Int))
  | 0, _, _, _, _, _ => none
  | n + 1, a1, p8_1, v6005, p17_0, p17_1 => (if (decide (p17_1 < ((List.length v6005.data : Nat) : Int))) = true then (Option.bind (at? v6005.data p17_1) fun v22006 => (Option.bind (s_l33Number p17_0 v22006) fun v22008 => (s_l33PutNet_l46 n a1 p8_1 v6005 v22008 (IntKind.i64.wrap (p17_1 + 1))))) else (if (decide (v6005.kind = 9)) = true then (Option.bind (app? p17_0 [(IntKind.u8.wrap (IntKind.i64.wrap (((List.length v6005.ports : Nat) : Int) - 1)))]) fun v24009 => (s_l33PutNet_l37 n a1 v24009 (IntKind.i64.wrap (p8_1 + 1)))) else (s_l33PutNet_l37 n a1 p17_0 (IntKind.i64.wrap (p8_1 + 1)))))
end
def s_l33PutNet (a0 : List Int) (a1 : Net) : Option ((List Int)) :=
  (Option.bind (s_l33Number a0 ((List.length a1.agents : Nat) : Int)) fun v2006 => (s_l33PutNet_l37 fuel a1 v2006 1))
def s_EncodeNet (a0 : Net) : Option ((List Int) × Int) :=
  (Option.bind (s_l11Ok a0) fun v2000 => (if (!v2000) = true then (some ([], 1)) else (Option.bind (s_l33PutNet [] a0) fun v4001 => (Option.bind (s_l33Close 1 v4001) fun v4002 => (some (v4002.1, v4002.2))))))
def i_hasValue (a0 : Int) : Option (Bool) :=
  (if (decide (a0 = 6)) = true then (some true) else (if (decide (a0 = 7)) = true then (some true) else (if (decide (a0 = 8)) = true then (some true) else (if (decide (a0 = 12)) = true then (some true) else (some (decide (a0 = 9)))))))
def i_Port_before (a0 : Port) (a1 : Port) : Option (Bool) :=
  (if (decide (a0.agent < a1.agent)) = true then (some true) else (if (decide (a0.agent = a1.agent)) = true then (some (decide (a0.slot < a1.slot))) else (some false)))
def i_appendNet_l44 : Nat → Net → (List Port) → (List Int) → Int → Option ((List Int))
  | 0, _, _, _, _ => none
  | n + 1, a1, v21000, p15_0, p15_1 => (if (decide (p15_1 < ((List.length v21000 : Nat) : Int))) = true then (Option.bind (at? v21000 p15_1) fun v23000 => (Option.bind (i_Net_peer a1 v23000) fun v24001 => (Option.bind (i_Port_before v23000 v24001) fun v25002 => (if v25002 = true then (Option.bind (i_appendNumber p15_0 v24001.agent) fun v26003 => (Option.bind (app? v26003 [(IntKind.u8.wrap v24001.slot)]) fun v26008 => (i_appendNet_l44 n a1 v21000 v26008 (IntKind.i64.wrap (p15_1 + 1))))) else (i_appendNet_l44 n a1 v21000 p15_0 (IntKind.i64.wrap (p15_1 + 1))))))) else (some p15_0))
mutual
def i_appendNet_l37 : Nat → Net → (List Agent) → (List Int) → Int → Option ((List Int))
  | 0, _, _, _, _ => none
  | n + 1, a1, v3002, p8_0, p8_1 => (if (decide (p8_1 < ((List.length v3002 : Nat) : Int))) = true then (Option.bind (at? v3002 p8_1) fun v5000 => (Option.bind (app? p8_0 [(IntKind.u8.wrap v5000.kind)]) fun v6005 => (Option.bind (i_HasLevel v5000.kind) fun v7002 => (if v7002 = true then (Option.bind (app? v6005 [(IntKind.u8.wrap v5000.level)]) fun v8005 => (i_appendNet_j38 n a1 p8_1 v3002 v5000 v8005)) else (i_appendNet_j38 n a1 p8_1 v3002 v5000 v6005))))) else (Option.bind (i_Net_ports a1) fun v21000 => (i_appendNet_l44 fuel a1 v21000 p8_0 0)))
def i_appendNet_j38 : Nat → Net → Int → (List Agent) → Agent → (List Int) → Option ((List Int))
  | 0, _, _, _, _, _ => none
  | n + 1, a1, p8_1, v3002, v5000, p9_0 => (Option.bind (i_hasValue v5000.kind) fun v9002 => (if v9002 = true then (Option.bind (i_appendNumber p9_0 v5000.value) fun v10003 => (i_appendNet_j39 n a1 p8_1 v3002 v5000 v10003)) else (i_appendNet_j39 n a1 p8_1 v3002 v5000 p9_0)))
def i_appendNet_j39 : Nat → Net → Int → (List Agent) → Agent → (List Int) → Option ((List Int))
  | 0, _, _, _, _, _ => none
  | n + 1, a1, p8_1, v3002, v5000, p10_0 => (if (decide (v5000.kind = 10)) = true then (Option.bind (app? p10_0 [(IntKind.u8.wrap ((List.length v5000.data : Nat) : Int))]) fun v12006 => (i_appendNet_j40 n a1 p8_1 v3002 v5000 v12006)) else (i_appendNet_j40 n a1 p8_1 v3002 v5000 p10_0))
def i_appendNet_j40 : Nat → Net → Int → (List Agent) → Agent → (List Int) → Option ((List Int))
  | 0, _, _, _, _, _ => none
  | n + 1, a1, p8_1, v3002, v5000, p11_0 => (i_appendNet_l46 n a1 p8_1 v3002 v5000 p11_0 0)
def i_appendNet_l46 : Nat → Net → Int → (List Agent) → Agent → (List Int) → Int → Option ((List Int))
  | 0, _, _, _, _, _, _ => none
  | n + 1, a1, p8_1, v3002, v5000, p17_0, p17_1 => (if (decide (p17_1 < ((List.length v5000.data : Nat) : Int))) = true then (Option.bind (at? v5000.data p17_1) fun v15000 => (Option.bind (i_appendNumber p17_0 v15000) fun v16002 => (i_appendNet_l46 n a1 p8_1 v3002 v5000 v16002 (IntKind.i64.wrap (p17_1 + 1))))) else (if (decide (v5000.kind = 9)) = true then (Option.bind (app? p17_0 [(IntKind.u8.wrap (IntKind.i64.wrap (((List.length v5000.ports : Nat) : Int) - 1)))]) fun v19007 => (i_appendNet_l37 n a1 v3002 v19007 (IntKind.i64.wrap (p8_1 + 1)))) else (i_appendNet_l37 n a1 v3002 p17_0 (IntKind.i64.wrap (p8_1 + 1)))))
end
def i_appendNet (a0 : List Int) (a1 : Net) : Option ((List Int)) :=
  (Option.bind (i_appendNumber a0 ((List.length a1.agents : Nat) : Int)) fun v2004 => (Option.bind (cutL a1.agents 1 ((List.length a1.agents : Nat) : Int)) fun v3002 => (i_appendNet_l37 fuel a1 v3002 v2004 0)))
def i_EncodeNet (a0 : Net) : Option ((List Int) × Int) :=
  (Option.bind (i_ValidNet a0) fun v2001 => (if (!v2001) = true then (some ([], 1)) else (Option.bind (i_appendNet [] a0) fun v4001 => (Option.bind (i_framed 1 v4001) fun v4002 => (some (v4002.1, v4002.2))))))
def l_FnExactEncodeNet_j3 (v18002 : Int × (List Int)) (p2_0 : Bool) : Option (Bool) :=
  (if p2_0 = true then (some false) else (Option.bind (l_heldByteS v18002.2 1) fun v29002 => (if (decide (v29002 < 0)) = true then (some false) else (if (!decide (v29002 = v18002.1)) = true then (some false) else (some true)))))
def l_FnExactEncodeNet_j2 (a0 : Net) (v6002 : (List Int) × Int) (v8001 : (List Int) × Int) (p1_0 : Bool) : Option (Bool) :=
  (if p1_0 = true then (some false) else (Option.bind (l_markByteS v8001.1 1) fun v18002 => (Option.bind (l_heldByteS v18002.2 1) fun v20002 => (if (decide (v20002 < 0)) = true then (some false) else (if (!decide (v20002 = v18002.1)) = true then (some false) else (Option.bind (l_toNet a0) fun v25001 => (Option.bind (i_EncodeNet v25001) fun v25002 => (Option.bind (l_eqByteS v25002.1 v6002.1) fun v26002 => (if (!v26002) = true then (l_FnExactEncodeNet_j3 v18002 true) else (l_FnExactEncodeNet_j3 v18002 (!decide (v25002.2 = v6002.2))))))))))))
def l_FnExactEncodeNet_j1 (a0 : Net) (v6002 : (List Int) × Int) (v7001 : Net) (v8001 : (List Int) × Int) (p0_0 : Bool) : Option (Bool) :=
  (if p0_0 = true then (some false) else (Option.bind (l_toNet a0) fun v11002 => (Option.bind (l_eqNet v7001 v11002) fun v11003 => (if (!v11003) = true then (some false) else (Option.bind (l_markNet v7001 1) fun v14002 => (if (decide (v14002.1 < 0)) = true then (l_FnExactEncodeNet_j2 a0 v6002 v8001 true) else (Option.bind (l_eqByteS v8001.1 v6002.1) fun v15005 => (if (!v15005) = true then (l_FnExactEncodeNet_j2 a0 v6002 v8001 true) else (l_FnExactEncodeNet_j2 a0 v6002 v8001 (!decide (v8001.2 = v6002.2)))))))))))
def l_FnExactEncodeNet (a0 : Net) : Option (Bool) :=
  (Option.bind (l_szNet a0 1048576) fun v3002 => (if (decide (v3002 < 0)) = true then (some true) else (Option.bind (l_toNet a0) fun v6001 => (Option.bind (s_EncodeNet v6001) fun v6002 => (Option.bind (l_toNet a0) fun v7001 => (Option.bind (i_EncodeNet v7001) fun v8001 => (Option.bind (l_eqByteS v8001.1 v6002.1) fun v9002 => (if (!v9002) = true then (l_FnExactEncodeNet_j1 a0 v6002 v7001 v8001 true) else (l_FnExactEncodeNet_j1 a0 v6002 v7001 v8001 (!decide (v8001.2 = v6002.2)))))))))))
end Go.Proofs.Ytocpkbclcnjejaa.Ab
