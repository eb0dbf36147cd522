/-
  Models of the functions. Printed by wip/ab/gen.py.
-/
import Derived.Test.YtffokcfdkkikmaaMTyB
import Derived.Test.YtffokcfdkkikmaaModC
namespace Go.Proofs.Ytffokcfdkkikmaa.Ab
set_option linter.unusedVariables false
set_option linter.unusedSimpArgs false
set_option maxRecDepth 20000
set_option maxHeartbeats 4000000
open Go.RowKit

mutual
def s_l33PutCore : Nat → (List Int) → Core → Option ((List Int))
  | 0, _, _ => none
  | n + 1, a0, a1 => (Option.bind (app? a0 [(IntKind.u8.wrap a1.kind)]) fun v2007 => (Option.bind (s_l33Number v2007 a1.value) fun v3005 => (Option.bind (app? v3005 [(IntKind.u8.wrap ((List.length a1.data : Nat) : Int))]) fun v4008 => (s_l33PutCore_l2 n a1 v4008 0))))
def s_l33PutCore_l2 : Nat → Core → (List Int) → Int → Option ((List Int))
  | 0, _, _, _ => none
  | n + 1, a1, p1_0, p1_1 => (if (decide (p1_1 < ((List.length a1.data : Nat) : Int))) = true then (Option.bind (at? a1.data p1_1) fun v8006 => (Option.bind (app? p1_0 [(IntKind.u8.wrap v8006)]) fun v8010 => (s_l33PutCore_l2 n a1 v8010 (IntKind.i64.wrap (p1_1 + 1))))) else (Option.bind (app? p1_0 [(IntKind.u8.wrap ((List.length a1.kids : Nat) : Int))]) fun v9008 => (s_l33PutCore_l4 n a1 v9008 0)))
def s_l33PutCore_l4 : Nat → Core → (List Int) → Int → Option ((List Int))
  | 0, _, _, _ => none
  | n + 1, a1, p3_0, p3_1 => (if (decide (p3_1 < ((List.length a1.kids : Nat) : Int))) = true then (Option.bind (at? a1.kids p3_1) fun v13006 => (Option.bind (s_l33PutCore n p3_0 v13006) fun v13007 => (s_l33PutCore_l4 n a1 v13007 (IntKind.i64.wrap (p3_1 + 1))))) else (some p3_0))
end
def s_EncodeBook_l2 : Nat → Book → (List Int) → Int → Option ((List Int) × Int)
  | 0, _, _, _ => none
  | n + 1, a0, p1_0, p1_1 => (if (decide (p1_1 < ((List.length a0.defs : Nat) : Int))) = true then (Option.bind (at? a0.defs p1_1) fun v8004 => (Option.bind (s_l33PutCore fuel p1_0 v8004) fun v8005 => (s_EncodeBook_l2 n a0 v8005 (IntKind.i64.wrap (p1_1 + 1))))) else (Option.bind (s_l33Close 3 p1_0) fun v9001 => (some (v9001.1, v9001.2))))
def s_EncodeBook (a0 : Book) : Option ((List Int) × Int) :=
  (Option.bind (s_l06Book a0) fun v2000 => (if (!v2000) = true then (some ([], 1)) else (Option.bind (s_l33Number [] ((List.length a0.defs : Nat) : Int)) fun v4004 => (s_EncodeBook_l2 fuel a0 v4004 0))))
mutual
def i_appendCore : Nat → (List Int) → Core → Option ((List Int))
  | 0, _, _ => none
  | n + 1, a0, a1 => (Option.bind (app? a0 [(IntKind.u8.wrap a1.kind)]) fun v2005 => (Option.bind (i_appendNumber v2005 a1.value) fun v2008 => (i_appendCore_j1 n a1 v2008)))
def i_appendCore_j1 : Nat → Core → (List Int) → Option ((List Int))
  | 0, _, _ => none
  | n + 1, a1, v2008 => (Option.bind (app? v2008 [(IntKind.u8.wrap ((List.length a1.data : Nat) : Int))]) fun v3006 => (i_appendCore_l3 n a1 v3006 0))
def i_appendCore_l3 : Nat → Core → (List Int) → Int → Option ((List Int))
  | 0, _, _, _ => none
  | n + 1, a1, p2_0, p2_1 => (if (decide (p2_1 < ((List.length a1.data : Nat) : Int))) = true then (Option.bind (at? a1.data p2_1) fun v6000 => (Option.bind (app? p2_0 [(IntKind.u8.wrap v6000)]) fun v7004 => (i_appendCore_l3 n a1 v7004 (IntKind.i64.wrap (p2_1 + 1))))) else (Option.bind (app? p2_0 [(IntKind.u8.wrap ((List.length a1.kids : Nat) : Int))]) fun v9006 => (i_appendCore_l5 n a1 v9006 0)))
def i_appendCore_l5 : Nat → Core → (List Int) → Int → Option ((List Int))
  | 0, _, _, _ => none
  | n + 1, a1, p4_0, p4_1 => (if (decide (p4_1 < ((List.length a1.kids : Nat) : Int))) = true then (Option.bind (at? a1.kids p4_1) fun v12000 => (Option.bind (i_appendCore n p4_0 v12000) fun v13002 => (i_appendCore_l5 n a1 v13002 (IntKind.i64.wrap (p4_1 + 1))))) else (some p4_0))
end
def i_EncodeBook_l2 : Nat → Book → (List Int) → Int → Option ((List Int) × Int)
  | 0, _, _, _ => none
  | n + 1, a0, p1_0, p1_1 => (if (decide (p1_1 < ((List.length a0.defs : Nat) : Int))) = true then (Option.bind (at? a0.defs p1_1) fun v7000 => (Option.bind (i_appendCore fuel p1_0 v7000) fun v8002 => (i_EncodeBook_l2 n a0 v8002 (IntKind.i64.wrap (p1_1 + 1))))) else (Option.bind (i_framed 3 p1_0) fun v10001 => (some (v10001.1, v10001.2))))
def i_EncodeBook (a0 : Book) : Option ((List Int) × Int) :=
  (Option.bind (i_ValidBook a0) fun v2001 => (if (!v2001) = true then (some ([], 1)) else (Option.bind (i_appendNumber [] ((List.length a0.defs : Nat) : Int)) fun v4003 => (i_EncodeBook_l2 fuel a0 v4003 0))))
def l_FnExactEncodeBook_j3 (v18002 : Int × (List Int)) (p2_0 : Bool) : Option (Bool) :=
  (if p2_0 = true then (some false) else (Option.bind (l_heldByteS v18002.2 1) fun v29002 => (if (decide (v29002 < 0)) = true then (some false) else (if (!decide (v29002 = v18002.1)) = true then (some false) else (some true)))))
def l_FnExactEncodeBook_j2 (a0 : Book) (v6002 : (List Int) × Int) (v8001 : (List Int) × Int) (p1_0 : Bool) : Option (Bool) :=
  (if p1_0 = true then (some false) else (Option.bind (l_markByteS v8001.1 1) fun v18002 => (Option.bind (l_heldByteS v18002.2 1) fun v20002 => (if (decide (v20002 < 0)) = true then (some false) else (if (!decide (v20002 = v18002.1)) = true then (some false) else (Option.bind (l_toBook a0) fun v25001 => (Option.bind (i_EncodeBook v25001) fun v25002 => (Option.bind (l_eqByteS v25002.1 v6002.1) fun v26002 => (if (!v26002) = true then (l_FnExactEncodeBook_j3 v18002 true) else (l_FnExactEncodeBook_j3 v18002 (!decide (v25002.2 = v6002.2))))))))))))
def l_FnExactEncodeBook_j1 (a0 : Book) (v6002 : (List Int) × Int) (v7001 : Book) (v8001 : (List Int) × Int) (p0_0 : Bool) : Option (Bool) :=
  (if p0_0 = true then (some false) else (Option.bind (l_toBook a0) fun v11002 => (Option.bind (l_eqBook v7001 v11002) fun v11003 => (if (!v11003) = true then (some false) else (Option.bind (l_markBook v7001 1) fun v14002 => (if (decide (v14002.1 < 0)) = true then (l_FnExactEncodeBook_j2 a0 v6002 v8001 true) else (Option.bind (l_eqByteS v8001.1 v6002.1) fun v15005 => (if (!v15005) = true then (l_FnExactEncodeBook_j2 a0 v6002 v8001 true) else (l_FnExactEncodeBook_j2 a0 v6002 v8001 (!decide (v8001.2 = v6002.2)))))))))))
def l_FnExactEncodeBook (a0 : Book) : Option (Bool) :=
  (Option.bind (l_szBook a0 1048576) fun v3002 => (if (decide (v3002 < 0)) = true then (some true) else (Option.bind (l_toBook a0) fun v6001 => (Option.bind (s_EncodeBook v6001) fun v6002 => (Option.bind (l_toBook a0) fun v7001 => (Option.bind (i_EncodeBook v7001) fun v8001 => (Option.bind (l_eqByteS v8001.1 v6002.1) fun v9002 => (if (!v9002) = true then (l_FnExactEncodeBook_j1 a0 v6002 v7001 v8001 true) else (l_FnExactEncodeBook_j1 a0 v6002 v7001 v8001 (!decide (v8001.2 = v6002.2)))))))))))
end Go.Proofs.Ytffokcfdkkikmaa.Ab
