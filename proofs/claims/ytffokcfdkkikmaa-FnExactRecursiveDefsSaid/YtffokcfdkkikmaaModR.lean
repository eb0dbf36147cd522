/-
  Models of the functions. Printed by wip/ab/gen.py.
-/
import Derived.Test.YtffokcfdkkikmaaModY
namespace Go.Proofs.Ytffokcfdkkikmaa.Ab
set_option linter.unusedVariables false
set_option linter.unusedSimpArgs false
set_option maxRecDepth 20000
set_option maxHeartbeats 4000000
open Go.RowKit

mutual
def s_l37Recursive_l142 : Nat → Book → (List (List Int)) → (List Int) → Int → Option ((List Int))
  | 0, _, _, _, _ => none
  | n + 1, a0, v2001, p13_0, p13_1 => (if (decide (p13_1 < ((List.length a0.defs : Nat) : Int))) = true then (Option.bind (at? v2001 p13_1) fun v7002 => (Option.bind (s_l00Own v7002) fun v7004 => (s_l37Recursive_l168 n a0 p13_0 p13_1 v2001 v7004 0))) else (some p13_0))
def s_l37Recursive_l168 : Nat → Book → (List Int) → Int → (List (List Int)) → (List Int) → Int → Option ((List Int))
  | 0, _, _, _, _, _, _ => none
  | n + 1, a0, p13_0, p13_1, v2001, p23_0, p23_1 => (if (decide (p23_1 < ((List.length p23_0 : Nat) : Int))) = true then (s_l37Recursive_l170 n a0 p13_0 p13_1 p23_1 v2001 p23_0 0) else (Option.bind (s_l00Has p23_0 p13_1) fun v16002 => (if v16002 = true then (Option.bind (app? p13_0 [p13_1]) fun v17003 => (s_l37Recursive_l142 n a0 v2001 v17003 (IntKind.i64.wrap (p13_1 + 1)))) else (s_l37Recursive_l142 n a0 v2001 p13_0 (IntKind.i64.wrap (p13_1 + 1))))))
def s_l37Recursive_l170 : Nat → Book → (List Int) → Int → Int → (List (List Int)) → (List Int) → Int → Option ((List Int))
  | 0, _, _, _, _, _, _, _ => none
  | n + 1, a0, p13_0, p13_1, p23_1, v2001, p25_0, p25_1 => (Option.bind (at? p25_0 p23_1) fun v12004 => (Option.bind (at? v2001 v12004) fun v12006 => (if (decide (p25_1 < ((List.length v12006 : Nat) : Int))) = true then (Option.bind (at? p25_0 p23_1) fun v14004 => (Option.bind (at? v2001 v14004) fun v14006 => (Option.bind (at? v14006 p25_1) fun v14009 => (Option.bind (s_l00Has p25_0 v14009) fun v14011 => (if (!v14011) = true then (Option.bind (at? p25_0 p23_1) fun v15004 => (Option.bind (at? v2001 v15004) fun v15006 => (Option.bind (at? v15006 p25_1) fun v15009 => (Option.bind (app? p25_0 [v15009]) fun v15012 => (s_l37Recursive_l170 n a0 p13_0 p13_1 p23_1 v2001 v15012 (IntKind.i64.wrap (p25_1 + 1))))))) else (s_l37Recursive_l170 n a0 p13_0 p13_1 p23_1 v2001 p25_0 (IntKind.i64.wrap (p25_1 + 1)))))))) else (s_l37Recursive_l168 n a0 p13_0 p13_1 v2001 p25_0 (IntKind.i64.wrap (p23_1 + 1))))))
end
def s_l37Recursive (a0 : Book) : Option ((List Int)) :=
  (Option.bind (s_l35Uses a0) fun v2001 => (s_l37Recursive_l142 fuel a0 v2001 [] 0))
def s_RecursiveDefs (a0 : Book) : Option ((List Int) × Int) :=
  (Option.bind (s_l06Book a0) fun v2000 => (if (!v2000) = true then (some ([], 1)) else (Option.bind (s_l37Recursive a0) fun v4000 => (some (v4000, 0)))))
def i_Book_isRecursive_1 (a0 : Int) (a1 : Book) (a2 : Int) : Option (Bool) :=
  (Option.bind (i_Book_usesIn a1 a0) fun v2002 => (Option.bind (g_Contains_sint64 v2002 a2) fun v2004 => (some v2004)))
def i_Book_isRecursive (a0 : Book) (a1 : Int) : Option (Bool) :=
  (Option.bind (i_Book_reachableFrom a0 [a1]) fun v2003 => (Option.bind (g_ContainsFunc_sint64 v2003 (fun y0 => i_Book_isRecursive_1 y0 a0 a1)) fun v2005 => (some v2005)))
def i_RecursiveDefs_l2 : Nat → Book → (List Int) → Int → Option ((List Int) × Int)
  | 0, _, _, _ => none
  | n + 1, a0, p1_0, p1_1 => (if (decide (p1_1 < ((List.length a0.defs : Nat) : Int))) = true then (Option.bind (i_Book_isRecursive a0 p1_1) fun v8002 => (if v8002 = true then (Option.bind (app? p1_0 [p1_1]) fun v9003 => (i_RecursiveDefs_l2 n a0 v9003 (IntKind.i64.wrap (p1_1 + 1)))) else (i_RecursiveDefs_l2 n a0 p1_0 (IntKind.i64.wrap (p1_1 + 1))))) else (some (p1_0, 0)))
def i_RecursiveDefs (a0 : Book) : Option ((List Int) × Int) :=
  (Option.bind (i_ValidBook a0) fun v2001 => (if (!v2001) = true then (some ([], 1)) else (i_RecursiveDefs_l2 fuel a0 [] 0)))
def l_FnExactRecursiveDefs_j3 (v18002 : Int × (List Int)) (p2_0 : Bool) : Option (Bool) :=
  (if p2_0 = true then (some false) else (Option.bind (l_heldInt64S v18002.2 1) fun v29002 => (if (decide (v29002 < 0)) = true then (some false) else (if (!decide (v29002 = v18002.1)) = true then (some false) else (some true)))))
def l_FnExactRecursiveDefs_j2 (a0 : Book) (v6002 : (List Int) × Int) (v8001 : (List Int) × Int) (p1_0 : Bool) : Option (Bool) :=
  (if p1_0 = true then (some false) else (Option.bind (l_markInt64S v8001.1 1) fun v18002 => (Option.bind (l_heldInt64S v18002.2 1) fun v20002 => (if (decide (v20002 < 0)) = true then (some false) else (if (!decide (v20002 = v18002.1)) = true then (some false) else (Option.bind (l_toBook a0) fun v25001 => (Option.bind (i_RecursiveDefs v25001) fun v25002 => (Option.bind (l_eqInt64S v25002.1 v6002.1) fun v26002 => (if (!v26002) = true then (l_FnExactRecursiveDefs_j3 v18002 true) else (l_FnExactRecursiveDefs_j3 v18002 (!decide (v25002.2 = v6002.2))))))))))))
def l_FnExactRecursiveDefs_j1 (a0 : Book) (v6002 : (List Int) × Int) (v7001 : Book) (v8001 : (List Int) × Int) (p0_0 : Bool) : Option (Bool) :=
  (if p0_0 = true then (some false) else (Option.bind (l_toBook a0) fun v11002 => (Option.bind (l_eqBook v7001 v11002) fun v11003 => (if (!v11003) = true then (some false) else (Option.bind (l_markBook v7001 1) fun v14002 => (if (decide (v14002.1 < 0)) = true then (l_FnExactRecursiveDefs_j2 a0 v6002 v8001 true) else (Option.bind (l_eqInt64S v8001.1 v6002.1) fun v15005 => (if (!v15005) = true then (l_FnExactRecursiveDefs_j2 a0 v6002 v8001 true) else (l_FnExactRecursiveDefs_j2 a0 v6002 v8001 (!decide (v8001.2 = v6002.2)))))))))))
def l_FnExactRecursiveDefs (a0 : Book) : Option (Bool) :=
  (Option.bind (l_szBook a0 1048576) fun v3002 => (if (decide (v3002 < 0)) = true then (some true) else (Option.bind (l_toBook a0) fun v6001 => (Option.bind (s_RecursiveDefs v6001) fun v6002 => (Option.bind (l_toBook a0) fun v7001 => (Option.bind (i_RecursiveDefs v7001) fun v8001 => (Option.bind (l_eqInt64S v8001.1 v6002.1) fun v9002 => (if (!v9002) = true then (l_FnExactRecursiveDefs_j1 a0 v6002 v7001 v8001 true) else (l_FnExactRecursiveDefs_j1 a0 v6002 v7001 v8001 (!decide (v8001.2 = v6002.2)))))))))))
end Go.Proofs.Ytffokcfdkkikmaa.Ab
