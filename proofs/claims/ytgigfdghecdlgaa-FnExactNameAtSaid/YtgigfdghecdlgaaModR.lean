/-
  Models of the functions. Printed by wip/ab/gen.py.
-/
import Derived.Test.YtgigfdghecdlgaaModT
namespace Go.Proofs.Ytgigfdghecdlgaa.Ab
set_option linter.unusedVariables false
set_option linter.unusedSimpArgs false
set_option maxRecDepth 20000
set_option maxHeartbeats 4000000
open Go.RowKit

def i_redexKind_j2 (p1_0 : Bool) : Option (Int) :=
  (if p1_0 = true then (some 4) else (some 0))
def i_redexKind_j1 (v4002 : Core) (v13002 : Core) (p0_0 : Bool) : Option (Int) :=
  (if p0_0 = true then (some 2) else (if (decide (v4002.kind = 11)) = true then (i_redexKind_j2 true) else (if (decide (v4002.kind = 2)) = true then (i_redexKind_j2 (decide (v13002.kind = 11))) else (i_redexKind_j2 false))))
def i_redexKind_j5 (p4_0 : Bool) : Option (Int) :=
  (if p4_0 = true then (some 3) else (some 0))
def i_redexKind_j4 (a0 : Core) (v4002 : Core) (p3_0 : Bool) : Option (Int) :=
  (if p3_0 = true then (i_redexKind_j5 p3_0) else (if (decide (a0.kind = 10)) = true then (i_redexKind_j5 (decide (v4002.kind = 2))) else (i_redexKind_j5 false)))
def i_redexKind_j3 (a0 : Core) (v4002 : Core) (p2_0 : Bool) : Option (Int) :=
  (if p2_0 = true then (if (decide (v4002.kind = 11)) = true then (some 4) else (if (decide (a0.kind = 9)) = true then (if (decide (v4002.kind = 8)) = true then (i_redexKind_j4 a0 v4002 (decide (v4002.value < ((List.length a0.data : Nat) : Int)))) else (i_redexKind_j4 a0 v4002 false)) else (i_redexKind_j4 a0 v4002 false))) else (some 0))
def i_redexKind (a0 : Core) : Option (Int) :=
  (if (decide (((List.length a0.kids : Nat) : Int) = 0)) = true then (some 0) else (Option.bind (at? a0.kids 0) fun v4002 => (if (decide (a0.kind = 5)) = true then (if (decide (v4002.kind = 4)) = true then (some 1) else (if (decide (v4002.kind = 11)) = true then (some 4) else (some 0))) else (if (decide (a0.kind = 3)) = true then (Option.bind (at? a0.kids 1) fun v13002 => (if (decide (v4002.kind = 2)) = true then (i_redexKind_j1 v4002 v13002 (decide (v13002.kind = 2))) else (i_redexKind_j1 v4002 v13002 false))) else (if (decide (a0.kind = 9)) = true then (i_redexKind_j3 a0 v4002 (decide (a0.kind = 9))) else (i_redexKind_j3 a0 v4002 (decide (a0.kind = 10))))))))
mutual
def i_labelNode_redexes : Nat → LabelNode → (List LabelNode) → Option ((List LabelNode))
  | 0, _, _ => none
  | n + 1, a0, a1 => (Option.bind (i_redexKind a0.core) fun v2004 => (if (!decide (v2004 = 0)) = true then (Option.bind (app? a1 [a0]) fun v3003 => (i_labelNode_redexes_j1 n a0 v3003)) else (i_labelNode_redexes_j1 n a0 a1)))
def i_labelNode_redexes_j1 : Nat → LabelNode → (List LabelNode) → Option ((List LabelNode))
  | 0, _, _ => none
  | n + 1, a0, p0_0 => (i_labelNode_redexes_l3 n a0 p0_0 0)
def i_labelNode_redexes_l3 : Nat → LabelNode → (List LabelNode) → Int → Option ((List LabelNode))
  | 0, _, _, _ => none
  | n + 1, a0, p2_0, p2_1 => (if (decide (p2_1 < ((List.length a0.kids : Nat) : Int))) = true then (Option.bind (at? a0.kids p2_1) fun v6000 => (Option.bind (i_labelNode_redexes n v6000 p2_0) fun v7002 => (i_labelNode_redexes_l3 n a0 v7002 (IntKind.i64.wrap (p2_1 + 1))))) else (some p2_0))
end
def g_IndexFunc_s_impl_labelNode_l1 : Nat → (List LabelNode) → Int → (LabelNode → Option Bool) → Option (Int)
  | 0, _, _, _ => none
  | n + 1, a0, p0_0, f1 => (if (decide (p0_0 < ((List.length a0 : Nat) : Int))) = true then (Option.bind (at? a0 p0_0) fun v5003 => (Option.bind (f1 v5003) fun v5005 => (if v5005 = true then (some p0_0) else (g_IndexFunc_s_impl_labelNode_l1 n a0 (IntKind.i64.wrap (p0_0 + 1)) f1)))) else (some (-1)))
def g_IndexFunc_s_impl_labelNode (a0 : List LabelNode) (f1 : (LabelNode → Option Bool)) : Option (Int) :=
  (g_IndexFunc_s_impl_labelNode_l1 fuel a0 0 f1)
def i_redexAt_1 (a0 : LabelNode) (a1 : Int) : Option (Bool) :=
  (some (decide (a0.att = a1)))
def i_redexAt (a0 : List LabelNode) (a1 : Int) : Option (Option LabelNode) :=
  (Option.bind (g_IndexFunc_s_impl_labelNode a0 (fun y0 => i_redexAt_1 y0 a1)) fun v2002 => (if (decide (v2002 < 0)) = true then (some none) else (Option.bind (at? a0 v2002) fun v5002 => (some (some v5002)))))
def i_labelNode_redexName_j1 (a0 : LabelNode) (v2004 : LabelNode) (p0_0 : Bool) : Option (ByteArray) :=
  (if p0_0 = true then (Option.bind (at? a0.kids 1) fun v5005 => (Option.bind (sapp? (ByteArray.mk #[38]) v5005.label) fun v5010 => (Option.bind (sapp? v2004.label v5010) fun v5011 => (some v5011)))) else (some v2004.label))
def i_labelNode_redexName (a0 : LabelNode) : Option (ByteArray) :=
  (Option.bind (at? a0.kids 0) fun v2004 => (Option.bind (i_redexKind a0.core) fun v3004 => (if (decide (v3004 = 2)) = true then (i_labelNode_redexName_j1 a0 v2004 true) else (if (decide (v3004 = 4)) = true then (if (decide (a0.core.kind = 3)) = true then (Option.bind (at? a0.kids 0) fun v4018 => (i_labelNode_redexName_j1 a0 v2004 (decide (v4018.core.kind = 2)))) else (i_labelNode_redexName_j1 a0 v2004 false)) else (i_labelNode_redexName_j1 a0 v2004 false)))))
end Go.Proofs.Ytgigfdghecdlgaa.Ab
