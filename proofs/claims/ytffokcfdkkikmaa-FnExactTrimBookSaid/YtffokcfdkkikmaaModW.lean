/-
  Models of the functions. Printed by wip/ab/gen.py.
-/
import Derived.Test.YtffokcfdkkikmaaManS
import Derived.Test.YtffokcfdkkikmaaModM
namespace Go.Proofs.Ytffokcfdkkikmaa.Ab
set_option linter.unusedVariables false
set_option linter.unusedSimpArgs false
set_option maxRecDepth 20000
set_option maxHeartbeats 4000000
open Go.RowKit

mutual
def s_l00Put_l10 : Nat → (List Int) → Int → (List Int) → Bool → Int → Option ((List Int))
  | 0, _, _, _, _, _ => none
  | n + 1, a0, a1, p3_0, p3_1, p3_2 => (if (decide (p3_2 < ((List.length a0 : Nat) : Int))) = true then (if (!p3_1) = true then (Option.bind (at? a0 p3_2) fun v7005 => (s_l00Put_j11 n a0 a1 p3_0 p3_1 p3_2 (decide (a1 ≤ v7005)))) else (s_l00Put_j11 n a0 a1 p3_0 p3_1 p3_2 false)) else (if (!p3_1) = true then (Option.bind (app? p3_0 [a1]) fun v13003 => (some v13003)) else (some p3_0)))
def s_l00Put_j11 : Nat → (List Int) → Int → (List Int) → Bool → Int → Bool → Option ((List Int))
  | 0, _, _, _, _, _, _ => none
  | n + 1, a0, a1, p3_0, p3_1, p3_2, p4_0 => (if p4_0 = true then (Option.bind (at? a0 p3_2) fun v9002 => (if (decide (a1 < v9002)) = true then (Option.bind (app? p3_0 [a1]) fun v10003 => (s_l00Put_j12 n a0 a1 p3_2 v10003 true)) else (s_l00Put_j12 n a0 a1 p3_2 p3_0 true))) else (s_l00Put_j12 n a0 a1 p3_2 p3_0 p3_1))
def s_l00Put_j12 : Nat → (List Int) → Int → Int → (List Int) → Bool → Option ((List Int))
  | 0, _, _, _, _, _ => none
  | n + 1, a0, a1, p3_2, p5_0, p5_1 => (Option.bind (at? a0 p3_2) fun v11003 => (Option.bind (app? p5_0 [v11003]) fun v11006 => (s_l00Put_l10 n a0 a1 v11006 p5_1 (IntKind.i64.wrap (p3_2 + 1)))))
end
def s_l00Put (a0 : List Int) (a1 : Int) : Option ((List Int)) :=
  (s_l00Put_l10 fuel a0 a1 [] false 0)
mutual
def s_l35Names : Nat → Core → (List Int) → Option ((List Int))
  | 0, _, _ => none
  | n + 1, a0, a1 => (if (decide (a0.kind = 11)) = true then (Option.bind (s_l00Put a1 a0.value) fun v3005 => (s_l35Names_j1 n a0 v3005)) else (s_l35Names_j1 n a0 a1))
def s_l35Names_j1 : Nat → Core → (List Int) → Option ((List Int))
  | 0, _, _ => none
  | n + 1, a0, p0_0 => (s_l35Names_l3 n a0 p0_0 0)
def s_l35Names_l3 : Nat → Core → (List Int) → Int → Option ((List Int))
  | 0, _, _, _ => none
  | n + 1, a0, p2_0, p2_1 => (if (decide (p2_1 < ((List.length a0.data : Nat) : Int))) = true then (Option.bind (at? a0.data p2_1) fun v7006 => (Option.bind (s_l00Put p2_0 v7006) fun v7008 => (s_l35Names_l3 n a0 v7008 (IntKind.i64.wrap (p2_1 + 1))))) else (s_l35Names_l5 n a0 p2_0 0))
def s_l35Names_l5 : Nat → Core → (List Int) → Int → Option ((List Int))
  | 0, _, _, _ => none
  | n + 1, a0, p4_0, p4_1 => (if (decide (p4_1 < ((List.length a0.kids : Nat) : Int))) = true then (Option.bind (at? a0.kids p4_1) fun v11005 => (Option.bind (s_l35Names n v11005 p4_0) fun v11007 => (s_l35Names_l5 n a0 v11007 (IntKind.i64.wrap (p4_1 + 1))))) else (some p4_0))
end
def s_l35Uses_l2 : Nat → Book → (List (List Int)) → Int → Option ((List (List Int)))
  | 0, _, _, _ => none
  | n + 1, a0, p1_0, p1_1 => (if (decide (p1_1 < ((List.length a0.defs : Nat) : Int))) = true then (Option.bind (at? a0.defs p1_1) fun v6006 => (Option.bind (s_l35Names fuel v6006 []) fun v6008 => (Option.bind (app? p1_0 [v6008]) fun v6010 => (s_l35Uses_l2 n a0 v6010 (IntKind.i64.wrap (p1_1 + 1)))))) else (some p1_0))
def s_l35Uses (a0 : Book) : Option ((List (List Int))) :=
  (s_l35Uses_l2 fuel a0 [] 0)
def s_BookUses (a0 : Book) : Option ((List (List Int)) × Int) :=
  (Option.bind (s_l06Book a0) fun v2000 => (if (!v2000) = true then (some ([], 1)) else (Option.bind (s_l35Uses a0) fun v4000 => (some (v4000, 0)))))
mutual
def i_namedDefs : Nat → Core → (List Int) → Option ((List Int))
  | 0, _, _ => none
  | n + 1, a0, a1 => (if (decide (a0.kind = 11)) = true then (Option.bind (app? a1 [a0.value]) fun v3004 => (i_namedDefs_j1 n a0 v3004)) else (i_namedDefs_j1 n a0 a1))
def i_namedDefs_j1 : Nat → Core → (List Int) → Option ((List Int))
  | 0, _, _ => none
  | n + 1, a0, p0_0 => (Option.bind (app? p0_0 a0.data) fun v4003 => (i_namedDefs_l3 n a0 v4003 0))
def i_namedDefs_l3 : Nat → Core → (List Int) → Int → Option ((List Int))
  | 0, _, _, _ => none
  | n + 1, a0, p2_0, p2_1 => (if (decide (p2_1 < ((List.length a0.kids : Nat) : Int))) = true then (Option.bind (at? a0.kids p2_1) fun v7000 => (Option.bind (i_namedDefs n v7000 p2_0) fun v8002 => (i_namedDefs_l3 n a0 v8002 (IntKind.i64.wrap (p2_1 + 1))))) else (some p2_0))
end
def i_Book_usesIn (a0 : Book) (a1 : Int) : Option ((List Int)) :=
  (Option.bind (at? a0.defs a1) fun v2003 => (Option.bind (i_namedDefs fuel v2003 []) fun v2005 => (Option.bind (g_Sort_sint64 v2005) fun v3001 => (Option.bind (g_Compact_sint64 v3001) fun v4001 => (some v4001)))))
def i_BookUses_l2 : Nat → Book → (List (List Int)) → Int → Option ((List (List Int)) × Int)
  | 0, _, _, _ => none
  | n + 1, a0, p1_0, p1_1 => (if (decide (p1_1 < ((List.length a0.defs : Nat) : Int))) = true then (Option.bind (i_Book_usesIn a0 p1_1) fun v8003 => (Option.bind (app? p1_0 [v8003]) fun v8005 => (i_BookUses_l2 n a0 v8005 (IntKind.i64.wrap (p1_1 + 1))))) else (some (p1_0, 0)))
def i_BookUses (a0 : Book) : Option ((List (List Int)) × Int) :=
  (Option.bind (i_ValidBook a0) fun v2001 => (if (!v2001) = true then (some ([], 1)) else (i_BookUses_l2 fuel a0 [] 0)))
def l_eqInt64SS_l1 : Nat → (List (List Int)) → (List (List Int)) → Int → Option (Bool)
  | 0, _, _, _ => none
  | n + 1, a0, a1, p0_0 => (if (decide (p0_0 < ((List.length a0 : Nat) : Int))) = true then (Option.bind (at? a0 p0_0) fun v7002 => (Option.bind (at? a1 p0_0) fun v7006 => (Option.bind (l_eqInt64S v7002 v7006) fun v7008 => (if (!v7008) = true then (some false) else (l_eqInt64SS_l1 n a0 a1 (IntKind.i64.wrap (p0_0 + 1))))))) else (some true))
def l_eqInt64SS (a0 : List (List Int)) (a1 : List (List Int)) : Option (Bool) :=
  (if (!decide (((List.length a0 : Nat) : Int) = ((List.length a1 : Nat) : Int))) = true then (some false) else (l_eqInt64SS_l1 fuel a0 a1 0))
def l_markInt64SS_l1 : Nat → (List (List Int)) → Int → Int → Option (Int × (List (List Int)))
  | 0, _, _, _ => none
  | n + 1, p0_0, p0_1, p0_2 => (if (decide (p0_2 < ((List.length p0_0 : Nat) : Int))) = true then (Option.bind (at? p0_0 p0_2) fun v5002 => (Option.bind (l_markInt64S v5002 p0_1) fun v5005 => (Option.bind (set1? p0_0 p0_2 v5005.2) fun v5005_8 => (l_markInt64SS_l1 n v5005_8 v5005.1 (IntKind.i64.wrap (p0_2 + 1)))))) else (some (p0_1, p0_0)))
def l_markInt64SS (a0 : List (List Int)) (a1 : Int) : Option (Int × (List (List Int))) :=
  (l_markInt64SS_l1 fuel a0 a1 0)
def l_heldInt64SS_l1 : Nat → (List (List Int)) → Int → Int → Option (Int)
  | 0, _, _, _ => none
  | n + 1, a0, p0_0, p0_1 => (if (decide (p0_1 < ((List.length a0 : Nat) : Int))) = true then (Option.bind (at? a0 p0_1) fun v5002 => (Option.bind (l_heldInt64S v5002 p0_0) fun v5005 => (if (decide (v5005 < 0)) = true then (some (-1)) else (l_heldInt64SS_l1 n a0 v5005 (IntKind.i64.wrap (p0_1 + 1)))))) else (some p0_0))
def l_heldInt64SS (a0 : List (List Int)) (a1 : Int) : Option (Int) :=
  (l_heldInt64SS_l1 fuel a0 a1 0)
def l_FnExactBookUses_j3 (v18002 : Int × (List (List Int))) (p2_0 : Bool) : Option (Bool) :=
  (if p2_0 = true then (some false) else (Option.bind (l_heldInt64SS v18002.2 1) fun v29002 => (if (decide (v29002 < 0)) = true then (some false) else (if (!decide (v29002 = v18002.1)) = true then (some false) else (some true)))))
def l_FnExactBookUses_j2 (a0 : Book) (v6002 : (List (List Int)) × Int) (v8001 : (List (List Int)) × Int) (p1_0 : Bool) : Option (Bool) :=
  (if p1_0 = true then (some false) else (Option.bind (l_markInt64SS v8001.1 1) fun v18002 => (Option.bind (l_heldInt64SS v18002.2 1) fun v20002 => (if (decide (v20002 < 0)) = true then (some false) else (if (!decide (v20002 = v18002.1)) = true then (some false) else (Option.bind (l_toBook a0) fun v25001 => (Option.bind (i_BookUses v25001) fun v25002 => (Option.bind (l_eqInt64SS v25002.1 v6002.1) fun v26002 => (if (!v26002) = true then (l_FnExactBookUses_j3 v18002 true) else (l_FnExactBookUses_j3 v18002 (!decide (v25002.2 = v6002.2))))))))))))
def l_FnExactBookUses_j1 (a0 : Book) (v6002 : (List (List Int)) × Int) (v7001 : Book) (v8001 : (List (List Int)) × Int) (p0_0 : Bool) : Option (Bool) :=
  (if p0_0 = true then (some false) else (Option.bind (l_toBook a0) fun v11002 => (Option.bind (l_eqBook v7001 v11002) fun v11003 => (if (!v11003) = true then (some false) else (Option.bind (l_markBook v7001 1) fun v14002 => (if (decide (v14002.1 < 0)) = true then (l_FnExactBookUses_j2 a0 v6002 v8001 true) else (Option.bind (l_eqInt64SS v8001.1 v6002.1) fun v15005 => (if (!v15005) = true then (l_FnExactBookUses_j2 a0 v6002 v8001 true) else (l_FnExactBookUses_j2 a0 v6002 v8001 (!decide (v8001.2 = v6002.2)))))))))))
def l_FnExactBookUses (a0 : Book) : Option (Bool) :=
  (Option.bind (l_szBook a0 1048576) fun v3002 => (if (decide (v3002 < 0)) = true then (some true) else (Option.bind (l_toBook a0) fun v6001 => (Option.bind (s_BookUses v6001) fun v6002 => (Option.bind (l_toBook a0) fun v7001 => (Option.bind (i_BookUses v7001) fun v8001 => (Option.bind (l_eqInt64SS v8001.1 v6002.1) fun v9002 => (if (!v9002) = true then (l_FnExactBookUses_j1 a0 v6002 v7001 v8001 true) else (l_FnExactBookUses_j1 a0 v6002 v7001 v8001 (!decide (v8001.2 = v6002.2)))))))))))
end Go.Proofs.Ytffokcfdkkikmaa.Ab
