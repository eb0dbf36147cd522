/-
  Models of the functions. Printed by wip/ab/gen.py.
-/
import Derived.Test.YtffokcfdkkikmaaModY
namespace Go.Proofs.Ytffokcfdkkikmaa.Ab
set_option linter.unusedVariables false
set_option linter.unusedSimpArgs false
set_option maxRecDepth 20000
set_option maxHeartbeats 4000000
open Go.RowKit

def s_l35Code (a0 : Book) (a1 : Int) : Option (Int) :=
  (Option.bind (s_l06Book a0) fun v2001 => (if (!v2001) = true then (some 1) else (Option.bind (s_l00In a1 0 (IntKind.i64.wrap (((List.length a0.defs : Nat) : Int) - 1))) fun v4007 => (if (!v4007) = true then (some 2) else (some 0)))))
mutual
def s_l35Live_l72 : Nat → Book → (List (List Int)) → (List Int) → Int → Option ((List Int))
  | 0, _, _, _, _ => none
  | n + 1, a0, v2001, p7_0, p7_1 => (if (decide (p7_1 < ((List.length a0.defs : Nat) : Int))) = true then (Option.bind (s_l00Own p7_0) fun v7001 => (s_l35Live_l84 n a0 p7_1 v2001 v7001 p7_0 0)) else (some p7_0))
def s_l35Live_l84 : Nat → Book → Int → (List (List Int)) → (List Int) → (List Int) → Int → Option ((List Int))
  | 0, _, _, _, _, _, _ => none
  | n + 1, a0, p7_1, v2001, v7001, p11_0, p11_1 => (if (decide (p11_1 < ((List.length v7001 : Nat) : Int))) = true then (s_l35Live_l86 n a0 p7_1 p11_1 v2001 v7001 p11_0 0) else (s_l35Live_l72 n a0 v2001 p11_0 (IntKind.i64.wrap (p7_1 + 1))))
def s_l35Live_l86 : Nat → Book → Int → Int → (List (List Int)) → (List Int) → (List Int) → Int → Option ((List Int))
  | 0, _, _, _, _, _, _, _ => none
  | n + 1, a0, p7_1, p11_1, v2001, v7001, p13_0, p13_1 => (Option.bind (at? v7001 p11_1) fun v12004 => (Option.bind (at? v2001 v12004) fun v12006 => (if (decide (p13_1 < ((List.length v12006 : Nat) : Int))) = true then (Option.bind (at? v7001 p11_1) fun v14004 => (Option.bind (at? v2001 v14004) fun v14006 => (Option.bind (at? v14006 p13_1) fun v14009 => (Option.bind (s_l00Put p13_0 v14009) fun v14011 => (s_l35Live_l86 n a0 p7_1 p11_1 v2001 v7001 v14011 (IntKind.i64.wrap (p13_1 + 1))))))) else (s_l35Live_l84 n a0 p7_1 v2001 v7001 p13_0 (IntKind.i64.wrap (p11_1 + 1))))))
end
def s_l35Live (a0 : Book) (a1 : Int) : Option ((List Int)) :=
  (Option.bind (s_l35Uses a0) fun v2001 => (s_l35Live_l72 fuel a0 v2001 [a1] 0))
def s_DeadDefs_l2 : Nat → Book → (List Int) → (List Int) → Int → Option ((List Int) × Int)
  | 0, _, _, _, _ => none
  | n + 1, a0, v5001, p1_0, p1_1 => (if (decide (p1_1 < ((List.length a0.defs : Nat) : Int))) = true then (Option.bind (s_l00Has v5001 p1_1) fun v10002 => (if (!v10002) = true then (Option.bind (app? p1_0 [p1_1]) fun v11003 => (s_DeadDefs_l2 n a0 v5001 v11003 (IntKind.i64.wrap (p1_1 + 1)))) else (s_DeadDefs_l2 n a0 v5001 p1_0 (IntKind.i64.wrap (p1_1 + 1))))) else (some (p1_0, 0)))
def s_DeadDefs (a0 : Book) (a1 : Int) : Option ((List Int) × Int) :=
  (Option.bind (s_l35Code a0 a1) fun v2001 => (if (!decide (v2001 = 0)) = true then (some ([], v2001)) else (Option.bind (s_l35Live a0 a1) fun v5001 => (s_DeadDefs_l2 fuel a0 v5001 [] 0))))
def i_atMost_1 (a0 : Int) (a1 : Int) : Option (Bool) :=
  (if (decide (a0 < 0)) = true then (some true) else (some (decide (a1 < a0))))
def i_atMost (a0 : Int) (a1 : List Int) : Option (Bool) :=
  (Option.bind (g_ContainsFunc_sint64 a1 (fun y0 => i_atMost_1 y0 a0)) fun v2002 => (some (!v2002)))
def i_hasDefinition (a0 : Book) (a1 : Int) : Option (Int) :=
  (Option.bind (i_ValidBook a0) fun v2001 => (if (!v2001) = true then (some 1) else (Option.bind (i_atMost (IntKind.i64.wrap (((List.length a0.defs : Nat) : Int) - 1)) [a1]) fun v4006 => (if (!v4006) = true then (some 2) else (some 0)))))
def i_DeadDefs_l2 : Nat → Book → (List Int) → (List Int) → Int → Option ((List Int) × Int)
  | 0, _, _, _, _ => none
  | n + 1, a0, v5003, p1_0, p1_1 => (if (decide (p1_1 < ((List.length a0.defs : Nat) : Int))) = true then (Option.bind (g_Contains_sint64 v5003 p1_1) fun v10002 => (if (!v10002) = true then (Option.bind (app? p1_0 [p1_1]) fun v11003 => (i_DeadDefs_l2 n a0 v5003 v11003 (IntKind.i64.wrap (p1_1 + 1)))) else (i_DeadDefs_l2 n a0 v5003 p1_0 (IntKind.i64.wrap (p1_1 + 1))))) else (some (p1_0, 0)))
def i_DeadDefs (a0 : Book) (a1 : Int) : Option ((List Int) × Int) :=
  (Option.bind (i_hasDefinition a0 a1) fun v2002 => (if (!decide (v2002 = 0)) = true then (some ([], v2002)) else (Option.bind (i_Book_reachableFrom a0 [a1]) fun v5003 => (i_DeadDefs_l2 fuel a0 v5003 [] 0))))
def l_FnExactDeadDefs_j3 (v18002 : Int × (List Int)) (p2_0 : Bool) : Option (Bool) :=
  (if p2_0 = true then (some false) else (Option.bind (l_heldInt64S v18002.2 1) fun v29002 => (if (decide (v29002 < 0)) = true then (some false) else (if (!decide (v29002 = v18002.1)) = true then (some false) else (some true)))))
def l_FnExactDeadDefs_j2 (a0 : Book) (a1 : Int) (v6003 : (List Int) × Int) (v8002 : (List Int) × Int) (p1_0 : Bool) : Option (Bool) :=
  (if p1_0 = true then (some false) else (Option.bind (l_markInt64S v8002.1 1) fun v18002 => (Option.bind (l_heldInt64S v18002.2 1) fun v20002 => (if (decide (v20002 < 0)) = true then (some false) else (if (!decide (v20002 = v18002.1)) = true then (some false) else (Option.bind (l_toBook a0) fun v25001 => (Option.bind (i_DeadDefs v25001 a1) fun v25003 => (Option.bind (l_eqInt64S v25003.1 v6003.1) fun v26002 => (if (!v26002) = true then (l_FnExactDeadDefs_j3 v18002 true) else (l_FnExactDeadDefs_j3 v18002 (!decide (v25003.2 = v6003.2))))))))))))
def l_FnExactDeadDefs_j1 (a0 : Book) (a1 : Int) (v6003 : (List Int) × Int) (v7001 : Book) (v8002 : (List Int) × Int) (p0_0 : Bool) : Option (Bool) :=
  (if p0_0 = true then (some false) else (Option.bind (l_toBook a0) fun v11002 => (Option.bind (l_eqBook v7001 v11002) fun v11003 => (if (!v11003) = true then (some false) else (Option.bind (l_markBook v7001 1) fun v14002 => (if (decide (v14002.1 < 0)) = true then (l_FnExactDeadDefs_j2 a0 a1 v6003 v8002 true) else (Option.bind (l_eqInt64S v8002.1 v6003.1) fun v15005 => (if (!v15005) = true then (l_FnExactDeadDefs_j2 a0 a1 v6003 v8002 true) else (l_FnExactDeadDefs_j2 a0 a1 v6003 v8002 (!decide (v8002.2 = v6003.2)))))))))))
def l_FnExactDeadDefs (a0 : Book) (a1 : Int) : Option (Bool) :=
  (Option.bind (l_szBook a0 1048576) fun v3002 => (if (decide (v3002 < 0)) = true then (some true) else (Option.bind (l_toBook a0) fun v6001 => (Option.bind (s_DeadDefs v6001 a1) fun v6003 => (Option.bind (l_toBook a0) fun v7001 => (Option.bind (i_DeadDefs v7001 a1) fun v8002 => (Option.bind (l_eqInt64S v8002.1 v6003.1) fun v9002 => (if (!v9002) = true then (l_FnExactDeadDefs_j1 a0 a1 v6003 v7001 v8002 true) else (l_FnExactDeadDefs_j1 a0 a1 v6003 v7001 v8002 (!decide (v8002.2 = v6003.2)))))))))))
end Go.Proofs.Ytffokcfdkkikmaa.Ab
