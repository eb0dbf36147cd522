/-
  Models of the functions. Printed by wip/ab/gen.py.
-/
import Derived.Test.YtffokcfdkkikmaaModW
namespace Go.Proofs.Ytffokcfdkkikmaa.Ab
set_option linter.unusedVariables false
set_option linter.unusedSimpArgs false
set_option maxRecDepth 20000
set_option maxHeartbeats 4000000
open Go.RowKit

def s_l00Has_l1 : Nat → (List Int) → Int → Int → Option (Bool)
  | 0, _, _, _ => none
  | n + 1, a0, a1, p0_0 => (if (decide (p0_0 < ((List.length a0 : Nat) : Int))) = true then (Option.bind (at? a0 p0_0) fun v5002 => (if (decide (v5002 = a1)) = true then (some true) else (s_l00Has_l1 n a0 a1 (IntKind.i64.wrap (p0_0 + 1))))) else (some false))
def s_l00Has (a0 : List Int) (a1 : Int) : Option (Bool) :=
  (s_l00Has_l1 fuel a0 a1 0)
def s_l00Own (a0 : List Int) : Option ((List Int)) :=
  (Option.bind (app? [] a0) fun v2002 => (some v2002))
def g_Index_sint64_l1 : Nat → (List Int) → Int → Int → Option (Int)
  | 0, _, _, _ => none
  | n + 1, a0, a1, p0_0 => (if (decide (p0_0 < ((List.length a0 : Nat) : Int))) = true then (Option.bind (at? a0 p0_0) fun v5003 => (if (decide (a1 = v5003)) = true then (some p0_0) else (g_Index_sint64_l1 n a0 a1 (IntKind.i64.wrap (p0_0 + 1))))) else (some (-1)))
def g_Index_sint64 (a0 : List Int) (a1 : Int) : Option (Int) :=
  (g_Index_sint64_l1 fuel a0 a1 0)
def g_Contains_sint64 (a0 : List Int) (a1 : Int) : Option (Bool) :=
  (Option.bind (g_Index_sint64 a0 a1) fun v2002 => (some (decide (0 ≤ v2002))))
def g_Clone_sint64 (a0 : List Int) : Option ((List Int)) :=
  (Option.bind (app? [] a0) fun v4002 => (some v4002))
mutual
def i_Book_reachableFrom_l12 : Nat → Book → (List Int) → Int → Option ((List Int))
  | 0, _, _, _ => none
  | n + 1, a0, p3_0, p3_1 => (if (decide (p3_1 < ((List.length p3_0 : Nat) : Int))) = true then (Option.bind (at? p3_0 p3_1) fun v6003 => (Option.bind (i_Book_usesIn a0 v6003) fun v6005 => (i_Book_reachableFrom_l14 n a0 p3_1 v6005 p3_0 0))) else (Option.bind (g_Sort_sint64 p3_0) fun v12001 => (Option.bind (g_Compact_sint64 v12001) fun v13001 => (some v13001))))
def i_Book_reachableFrom_l14 : Nat → Book → Int → (List Int) → (List Int) → Int → Option ((List Int))
  | 0, _, _, _, _, _ => none
  | n + 1, a0, p3_1, v6005, p5_0, p5_1 => (if (decide (p5_1 < ((List.length v6005 : Nat) : Int))) = true then (Option.bind (at? v6005 p5_1) fun v8000 => (Option.bind (g_Contains_sint64 p5_0 v8000) fun v9002 => (if (!v9002) = true then (Option.bind (app? p5_0 [v8000]) fun v10003 => (i_Book_reachableFrom_l14 n a0 p3_1 v6005 v10003 (IntKind.i64.wrap (p5_1 + 1)))) else (i_Book_reachableFrom_l14 n a0 p3_1 v6005 p5_0 (IntKind.i64.wrap (p5_1 + 1)))))) else (i_Book_reachableFrom_l12 n a0 p5_0 (IntKind.i64.wrap (p3_1 + 1))))
end
def i_Book_reachableFrom (a0 : Book) (a1 : List Int) : Option ((List Int)) :=
  (Option.bind (g_Clone_sint64 a1) fun v2001 => (i_Book_reachableFrom_l12 fuel a0 v2001 0))
end Go.Proofs.Ytffokcfdkkikmaa.Ab
