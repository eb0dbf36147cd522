/-
  Models of the functions. Printed by wip/ab/gen.py.
-/
import Derived.Test.YtffokcfdkkikmaaModX
namespace Go.Proofs.Ytffokcfdkkikmaa.Ab
set_option linter.unusedVariables false
set_option linter.unusedSimpArgs false
set_option maxRecDepth 20000
set_option maxHeartbeats 4000000
open Go.RowKit

mutual
def s_l35Renumber : Nat → Core → (List Int) → Option (Core)
  | 0, _, _ => none
  | n + 1, a0, a1 => (if (decide (a0.kind = 11)) = true then (Option.bind (at? a1 a0.value) fun v4005 => (s_l35Renumber_j1 n a0 a1 v4005)) else (s_l35Renumber_j1 n a0 a1 a0.value))
def s_l35Renumber_j1 : Nat → Core → (List Int) → Int → Option (Core)
  | 0, _, _, _ => none
  | n + 1, a0, a1, p0_0 => (s_l35Renumber_l3 n a0 a1 p0_0 [] 0)
def s_l35Renumber_l3 : Nat → Core → (List Int) → Int → (List Int) → Int → Option (Core)
  | 0, _, _, _, _, _ => none
  | n + 1, a0, a1, p0_0, p2_0, p2_1 => (if (decide (p2_1 < ((List.length a0.data : Nat) : Int))) = true then (Option.bind (at? a0.data p2_1) fun v8008 => (Option.bind (at? a1 v8008) fun v8010 => (Option.bind (app? p2_0 [v8010]) fun v8013 => (s_l35Renumber_l3 n a0 a1 p0_0 v8013 (IntKind.i64.wrap (p2_1 + 1)))))) else (s_l35Renumber_l5 n a0 a1 p0_0 p2_0 [] 0))
def s_l35Renumber_l5 : Nat → Core → (List Int) → Int → (List Int) → (List Core) → Int → Option (Core)
  | 0, _, _, _, _, _, _ => none
  | n + 1, a0, a1, p0_0, p2_0, p4_0, p4_1 => (if (decide (p4_1 < ((List.length a0.kids : Nat) : Int))) = true then (Option.bind (at? a0.kids p4_1) fun v12007 => (Option.bind (s_l35Renumber n v12007 a1) fun v12009 => (Option.bind (app? p4_0 [v12009]) fun v12011 => (s_l35Renumber_l5 n a0 a1 p0_0 p2_0 v12011 (IntKind.i64.wrap (p4_1 + 1)))))) else (some (⟨a0.kind, p0_0, p2_0, p4_0⟩ : Core)))
end
def s_TrimBook_l4 : Nat → Book → Int → (List Int) → (List Int) → (List Core) → Int → Option (Book × Int × Int)
  | 0, _, _, _, _, _, _ => none
  | n + 1, a0, a1, p1_0, v5001, p3_0, p3_1 => (if (decide (p3_1 < ((List.length v5001 : Nat) : Int))) = true then (Option.bind (at? v5001 p3_1) fun v15006 => (Option.bind (at? a0.defs v15006) fun v15008 => (Option.bind (s_l35Renumber fuel v15008 p1_0) fun v15010 => (Option.bind (app? p3_0 [v15010]) fun v15012 => (s_TrimBook_l4 n a0 a1 p1_0 v5001 v15012 (IntKind.i64.wrap (p3_1 + 1))))))) else (Option.bind (at? p1_0 a1) fun v16003 => (some ((⟨p3_0⟩ : Book), v16003, 0))))
def s_TrimBook_l2 : Nat → Book → Int → (List Int) → (List Int) → Int → Option (Book × Int × Int)
  | 0, _, _, _, _, _ => none
  | n + 1, a0, a1, v5001, p1_0, p1_1 => (if (decide (p1_1 < ((List.length v5001 : Nat) : Int))) = true then (Option.bind (at? v5001 p1_1) fun v10003 => (Option.bind (at? p1_0 v10003) fun v10006 => (Option.bind (set1? p1_0 v10003 p1_1) fun v10007_12 => (s_TrimBook_l2 n a0 a1 v5001 v10007_12 (IntKind.i64.wrap (p1_1 + 1)))))) else (s_TrimBook_l4 fuel a0 a1 p1_0 v5001 [] 0))
def s_TrimBook (a0 : Book) (a1 : Int) : Option (Book × Int × Int) :=
  (Option.bind (s_l35Code a0 a1) fun v2001 => (if (!decide (v2001 = 0)) = true then (some ((⟨[]⟩ : Book), 0, v2001)) else (Option.bind (s_l35Live a0 a1) fun v5001 => (Option.bind (rep? ((List.length a0.defs : Nat) : Int) 0) fun v6003 => (s_TrimBook_l2 fuel a0 a1 v5001 v6003 0)))))
mutual
def i_renumberDefs : Nat → Core → (List Int) → Option (Core)
  | 0, _, _ => none
  | n + 1, a0, a1 => (if (decide (a0.kind = 11)) = true then (Option.bind (g_Index_sint64 a1 a0.value) fun v4003 => (i_renumberDefs_j1 n a0 a1 v4003)) else (i_renumberDefs_j1 n a0 a1 a0.value))
def i_renumberDefs_j1 : Nat → Core → (List Int) → Int → Option (Core)
  | 0, _, _, _ => none
  | n + 1, a0, a1, p0_0 => (i_renumberDefs_l3 n a0 a1 p0_0 [] 0)
def i_renumberDefs_l3 : Nat → Core → (List Int) → Int → (List Int) → Int → Option (Core)
  | 0, _, _, _, _, _ => none
  | n + 1, a0, a1, p0_0, p2_0, p2_1 => (if (decide (p2_1 < ((List.length a0.data : Nat) : Int))) = true then (Option.bind (at? a0.data p2_1) fun v7000 => (Option.bind (g_Index_sint64 a1 v7000) fun v8004 => (Option.bind (app? p2_0 [v8004]) fun v8006 => (i_renumberDefs_l3 n a0 a1 p0_0 v8006 (IntKind.i64.wrap (p2_1 + 1)))))) else (i_renumberDefs_l5 n a0 a1 p0_0 p2_0 [] 0))
def i_renumberDefs_l5 : Nat → Core → (List Int) → Int → (List Int) → (List Core) → Int → Option (Core)
  | 0, _, _, _, _, _, _ => none
  | n + 1, a0, a1, p0_0, p2_0, p4_0, p4_1 => (if (decide (p4_1 < ((List.length a0.kids : Nat) : Int))) = true then (Option.bind (at? a0.kids p4_1) fun v12000 => (Option.bind (i_renumberDefs n v12000 a1) fun v13004 => (Option.bind (app? p4_0 [v13004]) fun v13006 => (i_renumberDefs_l5 n a0 a1 p0_0 p2_0 v13006 (IntKind.i64.wrap (p4_1 + 1)))))) else (some (⟨a0.kind, p0_0, p2_0, p4_0⟩ : Core)))
end
def i_TrimBook_l2 : Nat → Book → Int → (List Int) → (List Core) → Int → Option (Book × Int × Int)
  | 0, _, _, _, _, _ => none
  | n + 1, a0, a1, v5003, p1_0, p1_1 => (if (decide (p1_1 < ((List.length v5003 : Nat) : Int))) = true then (Option.bind (at? v5003 p1_1) fun v9000 => (Option.bind (at? a0.defs v9000) fun v10005 => (Option.bind (i_renumberDefs fuel v10005 v5003) fun v10008 => (Option.bind (app? p1_0 [v10008]) fun v10010 => (i_TrimBook_l2 n a0 a1 v5003 v10010 (IntKind.i64.wrap (p1_1 + 1))))))) else (Option.bind (g_Index_sint64 v5003 a1) fun v12003 => (some ((⟨p1_0⟩ : Book), v12003, 0))))
def i_TrimBook (a0 : Book) (a1 : Int) : Option (Book × Int × Int) :=
  (Option.bind (i_hasDefinition a0 a1) fun v2002 => (if (!decide (v2002 = 0)) = true then (some ((⟨[]⟩ : Book), 0, v2002)) else (Option.bind (i_Book_reachableFrom a0 [a1]) fun v5003 => (i_TrimBook_l2 fuel a0 a1 v5003 [] 0))))
def l_FnExactTrimBook_j3 (v18002 : Int × (List Core)) (p2_0 : Bool) : Option (Bool) :=
  (if p2_0 = true then (some false) else (Option.bind (l_heldBook (⟨v18002.2⟩ : Book) 1) fun v29002 => (if (decide (v29002 < 0)) = true then (some false) else (if (!decide (v29002 = v18002.1)) = true then (some false) else (some true)))))
def l_FnExactTrimBook_j2 (a0 : Book) (a1 : Int) (v6003 : Book × Int × Int) (v8002 : Book × Int × Int) (p1_0 : Bool) : Option (Bool) :=
  (if p1_0 = true then (some false) else (Option.bind (l_markBook v8002.1 1) fun v18002 => (Option.bind (l_heldBook (⟨v18002.2⟩ : Book) 1) fun v20002 => (if (decide (v20002 < 0)) = true then (some false) else (if (!decide (v20002 = v18002.1)) = true then (some false) else (Option.bind (l_toBook a0) fun v25001 => (Option.bind (i_TrimBook v25001 a1) fun v25003 => (Option.bind (l_eqBook v25003.1 v6003.1) fun v26002 => (if (!v26002) = true then (l_FnExactTrimBook_j3 v18002 true) else (if (!decide (v25003.2.1 = v6003.2.1)) = true then (l_FnExactTrimBook_j3 v18002 true) else (l_FnExactTrimBook_j3 v18002 (!decide (v25003.2.2 = v6003.2.2)))))))))))))
def l_FnExactTrimBook_j1 (a0 : Book) (a1 : Int) (v6003 : Book × Int × Int) (v7001 : Book) (v8002 : Book × Int × Int) (p0_0 : Bool) : Option (Bool) :=
  (if p0_0 = true then (some false) else (Option.bind (l_toBook a0) fun v11002 => (Option.bind (l_eqBook v7001 v11002) fun v11003 => (if (!v11003) = true then (some false) else (Option.bind (l_markBook v7001 1) fun v14002 => (if (decide (v14002.1 < 0)) = true then (l_FnExactTrimBook_j2 a0 a1 v6003 v8002 true) else (Option.bind (l_eqBook v8002.1 v6003.1) fun v15005 => (if (!v15005) = true then (l_FnExactTrimBook_j2 a0 a1 v6003 v8002 true) else (if (!decide (v8002.2.1 = v6003.2.1)) = true then (l_FnExactTrimBook_j2 a0 a1 v6003 v8002 true) else (l_FnExactTrimBook_j2 a0 a1 v6003 v8002 (!decide (v8002.2.2 = v6003.2.2))))))))))))
def l_FnExactTrimBook (a0 : Book) (a1 : Int) : Option (Bool) :=
  (Option.bind (l_szBook a0 1048576) fun v3002 => (if (decide (v3002 < 0)) = true then (some true) else (Option.bind (l_toBook a0) fun v6001 => (Option.bind (s_TrimBook v6001 a1) fun v6003 => (Option.bind (l_toBook a0) fun v7001 => (Option.bind (i_TrimBook v7001 a1) fun v8002 => (Option.bind (l_eqBook v8002.1 v6003.1) fun v9002 => (if (!v9002) = true then (l_FnExactTrimBook_j1 a0 a1 v6003 v7001 v8002 true) else (if (!decide (v8002.2.1 = v6003.2.1)) = true then (l_FnExactTrimBook_j1 a0 a1 v6003 v7001 v8002 true) else (l_FnExactTrimBook_j1 a0 a1 v6003 v7001 v8002 (!decide (v8002.2.2 = v6003.2.2))))))))))))
end Go.Proofs.Ytffokcfdkkikmaa.Ab
