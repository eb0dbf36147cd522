/-
  Models of the functions. Printed by wip/ab/gen.py.
-/
import Derived.Test.YtfbnlkaggggmiaaMTyS
import Derived.Test.YtfbnlkaggggmiaaModC
namespace Go.Proofs.Ytfbnlkaggggmiaa.Ab
set_option linter.unusedVariables false
set_option linter.unusedSimpArgs false
set_option maxRecDepth 20000
set_option maxHeartbeats 4000000
open Go.RowKit

def s_l00Own (a0 : List Int) : Option ((List Int)) :=
  (Option.bind (app? [] a0) fun v2002 => (some v2002))
mutual
def s_l06Shift : Nat → Core → Int → Int → Option (Core)
  | 0, _, _, _ => none
  | n + 1, a0, a1, a2 => (Option.bind (s_l00Own a0.data) fun v2012 => (if (decide (a0.kind = 1)) = true then (s_l06Shift_j1 n a0 a1 a2 v2012 (decide (a2 ≤ a0.value))) else (s_l06Shift_j1 n a0 a1 a2 v2012 false)))
def s_l06Shift_j1 : Nat → Core → Int → Int → (List Int) → Bool → Option (Core)
  | 0, _, _, _, _, _ => none
  | n + 1, a0, a1, a2, v2012, p0_0 => (if p0_0 = true then (s_l06Shift_j2 n a0 a1 a2 v2012 (IntKind.i64.wrap (a0.value + a1))) else (s_l06Shift_j2 n a0 a1 a2 v2012 a0.value))
def s_l06Shift_j2 : Nat → Core → Int → Int → (List Int) → Int → Option (Core)
  | 0, _, _, _, _, _ => none
  | n + 1, a0, a1, a2, v2012, p1_0 => (s_l06Shift_l4 n a0 a1 a2 p1_0 v2012 [] 0)
def s_l06Shift_l4 : Nat → Core → Int → Int → Int → (List Int) → (List Core) → Int → Option (Core)
  | 0, _, _, _, _, _, _, _ => none
  | n + 1, a0, a1, a2, p1_0, v2012, p3_0, p3_1 => (if (decide (p3_1 < ((List.length a0.kids : Nat) : Int))) = true then (Option.bind (at? a0.kids p3_1) fun v8007 => (Option.bind (s_l06Binds a0 p3_1) fun v8012 => (Option.bind (s_l06Shift n v8007 a1 (IntKind.i64.wrap (a2 + v8012))) fun v8014 => (Option.bind (app? p3_0 [v8014]) fun v8016 => (s_l06Shift_l4 n a0 a1 a2 p1_0 v2012 v8016 (IntKind.i64.wrap (p3_1 + 1))))))) else (some (⟨a0.kind, p1_0, v2012, p3_0⟩ : Core)))
end
def s_l00Max (a0 : Int) (a1 : Int) : Option (Int) :=
  (if (decide (a1 < a0)) = true then (some a0) else (some a1))
mutual
def s_l06Highest : Nat → Core → Option (Int)
  | 0, _ => none
  | n + 1, a0 => (if (decide (a0.kind = 1)) = true then (s_l06Highest_j1 n a0 a0.value) else (s_l06Highest_j1 n a0 (-1)))
def s_l06Highest_j1 : Nat → Core → Int → Option (Int)
  | 0, _, _ => none
  | n + 1, a0, p0_0 => (s_l06Highest_l2 n a0 p0_0 0)
def s_l06Highest_l2 : Nat → Core → Int → Int → Option (Int)
  | 0, _, _, _ => none
  | n + 1, a0, p1_0, p1_1 => (if (decide (p1_1 < ((List.length a0.kids : Nat) : Int))) = true then (Option.bind (at? a0.kids p1_1) fun v8006 => (Option.bind (s_l06Highest n v8006) fun v8007 => (Option.bind (s_l00Max p1_0 v8007) fun v8008 => (s_l06Highest_l2 n a0 v8008 (IntKind.i64.wrap (p1_1 + 1)))))) else (some p1_0))
end
def s_ShiftCore_j1 (a0 : Core) (a1 : Int) (a2 : Int) (p0_0 : Bool) : Option (Core × Int) :=
  (if p0_0 = true then (some ((⟨0, 0, [], []⟩ : Core), 2)) else (Option.bind (s_l06Shift fuel a0 a1 a2) fun v6002 => (Option.bind (s_l06Highest fuel v6002) fun v7000 => (if (decide (255 < v7000)) = true then (some ((⟨0, 0, [], []⟩ : Core), 2)) else (some (v6002, 0))))))
def s_ShiftCore (a0 : Core) (a1 : Int) (a2 : Int) : Option (Core × Int) :=
  (Option.bind (s_l06Ok a0) fun v2000 => (if (!v2000) = true then (some ((⟨0, 0, [], []⟩ : Core), 1)) else (Option.bind (s_l00In a1 0 64) fun v4001 => (if (!v4001) = true then (s_ShiftCore_j1 a0 a1 a2 true) else (Option.bind (s_l00In a2 0 255) fun v4005 => (s_ShiftCore_j1 a0 a1 a2 (!v4005)))))))
def g_Clone_sint64 (a0 : List Int) : Option ((List Int)) :=
  (Option.bind (app? [] a0) fun v4002 => (some v4002))
mutual
def i_mapVars : Nat → Core → Int → (Core → Int → Option Core) → Option (Core)
  | 0, _, _, _ => none
  | n + 1, a0, a1, f2 => (if (decide (a0.kind = 1)) = true then (Option.bind (f2 a0 a1) fun v3003 => (some v3003)) else (Option.bind (g_Clone_sint64 a0.data) fun v4006 => (i_mapVars_l2 n a0 a1 v4006 [] 0 f2)))
def i_mapVars_l2 : Nat → Core → Int → (List Int) → (List Core) → Int → (Core → Int → Option Core) → Option (Core)
  | 0, _, _, _, _, _, _ => none
  | n + 1, a0, a1, v4006, p1_0, p1_1, f2 => (if (decide (p1_1 < ((List.length a0.kids : Nat) : Int))) = true then (Option.bind (at? a0.kids p1_1) fun v7001 => (Option.bind (i_Core_binds a0 p1_1) fun v8006 => (Option.bind (i_mapVars n v7001 (IntKind.i64.wrap (a1 + v8006)) f2) fun v8009 => (Option.bind (app? p1_0 [v8009]) fun v8011 => (i_mapVars_l2 n a0 a1 v4006 v8011 (IntKind.i64.wrap (p1_1 + 1)) f2))))) else (some (⟨a0.kind, a0.value, v4006, p1_0⟩ : Core)))
end
def i_shift_1 (a0 : Core) (a1 : Int) (a2 : Int) (a3 : Int) : Option (Core) :=
  (if (decide ((IntKind.i64.wrap (a1 + a2)) ≤ a0.value)) = true then (Option.bind (emp? a0.data) fun em0 => (Option.bind (emp? a0.kids) fun em1 => (some (⟨a0.kind, (IntKind.i64.wrap (a0.value + a3)), a0.data, a0.kids⟩ : Core)))) else (Option.bind (emp? a0.data) fun em0 => (Option.bind (emp? a0.kids) fun em1 => (some a0))))
def i_shift (a0 : Core) (a1 : Int) (a2 : Int) : Option (Core) :=
  (Option.bind (i_mapVars fuel a0 0 (fun y0 y1 => i_shift_1 y0 y1 a2 a1)) fun v2002 => (some v2002))
def i_indicesFit_1 (a0 : Core) : Option (Bool) :=
  (if (decide (a0.kind = 1)) = true then (some (decide (255 < a0.value))) else (some false))
def i_indicesFit (a0 : Core) : Option (Bool) :=
  (Option.bind (i_anyCore fuel a0 (fun y0 => i_indicesFit_1 y0)) fun v2001 => (some (!v2001)))
def i_ShiftCore_j1 (a0 : Core) (a1 : Int) (a2 : Int) (p0_0 : Bool) : Option (Core × Int) :=
  (if p0_0 = true then (some ((⟨0, 0, [], []⟩ : Core), 2)) else (Option.bind (i_shift a0 a1 a2) fun v6003 => (Option.bind (i_indicesFit v6003) fun v7001 => (if (!v7001) = true then (some ((⟨0, 0, [], []⟩ : Core), 2)) else (some (v6003, 0))))))
def i_ShiftCore (a0 : Core) (a1 : Int) (a2 : Int) : Option (Core × Int) :=
  (Option.bind (i_ValidCore a0) fun v2001 => (if (!v2001) = true then (some ((⟨0, 0, [], []⟩ : Core), 1)) else (if (decide (a1 < 0)) = true then (i_ShiftCore_j1 a0 a1 a2 true) else (if (decide (64 < a1)) = true then (i_ShiftCore_j1 a0 a1 a2 true) else (if (decide (a2 < 0)) = true then (i_ShiftCore_j1 a0 a1 a2 true) else (i_ShiftCore_j1 a0 a1 a2 (decide (255 < a2))))))))
def l_FnExactShiftCore_j3 (v8003 : Core × Int) (v18002 : Int × (List Int) × (List Core)) (p2_0 : Bool) : Option (Bool) :=
  (if p2_0 = true then (some false) else (Option.bind (l_heldCore (⟨v8003.1.kind, v8003.1.value, v18002.2.1, v18002.2.2⟩ : Core) 1) fun v29002 => (if (decide (v29002 < 0)) = true then (some false) else (if (!decide (v29002 = v18002.1)) = true then (some false) else (some true)))))
def l_FnExactShiftCore_j2 (a0 : Core) (a1 : Int) (a2 : Int) (v6004 : Core × Int) (v8003 : Core × Int) (p1_0 : Bool) : Option (Bool) :=
  (if p1_0 = true then (some false) else (Option.bind (l_markCore v8003.1 1) fun v18002 => (Option.bind (l_heldCore (⟨v8003.1.kind, v8003.1.value, v18002.2.1, v18002.2.2⟩ : Core) 1) fun v20002 => (if (decide (v20002 < 0)) = true then (some false) else (if (!decide (v20002 = v18002.1)) = true then (some false) else (Option.bind (l_toCore fuel a0) fun v25001 => (Option.bind (i_ShiftCore v25001 a1 a2) fun v25004 => (Option.bind (l_eqCore fuel v25004.1 v6004.1) fun v26002 => (if (!v26002) = true then (l_FnExactShiftCore_j3 v8003 v18002 true) else (l_FnExactShiftCore_j3 v8003 v18002 (!decide (v25004.2 = v6004.2))))))))))))
def l_FnExactShiftCore_j1 (a0 : Core) (a1 : Int) (a2 : Int) (v6004 : Core × Int) (v7001 : Core) (v8003 : Core × Int) (p0_0 : Bool) : Option (Bool) :=
  (if p0_0 = true then (some false) else (Option.bind (l_toCore fuel a0) fun v11002 => (Option.bind (l_eqCore fuel v7001 v11002) fun v11003 => (if (!v11003) = true then (some false) else (Option.bind (l_markCore v7001 1) fun v14002 => (if (decide (v14002.1 < 0)) = true then (l_FnExactShiftCore_j2 a0 a1 a2 v6004 v8003 true) else (Option.bind (l_eqCore fuel v8003.1 v6004.1) fun v15005 => (if (!v15005) = true then (l_FnExactShiftCore_j2 a0 a1 a2 v6004 v8003 true) else (l_FnExactShiftCore_j2 a0 a1 a2 v6004 v8003 (!decide (v8003.2 = v6004.2)))))))))))
def l_FnExactShiftCore (a0 : Core) (a1 : Int) (a2 : Int) : Option (Bool) :=
  (Option.bind (l_szCore fuel a0 1048576) fun v3002 => (if (decide (v3002 < 0)) = true then (some true) else (Option.bind (l_toCore fuel a0) fun v6001 => (Option.bind (s_ShiftCore v6001 a1 a2) fun v6004 => (Option.bind (l_toCore fuel a0) fun v7001 => (Option.bind (i_ShiftCore v7001 a1 a2) fun v8003 => (Option.bind (l_eqCore fuel v8003.1 v6004.1) fun v9002 => (if (!v9002) = true then (l_FnExactShiftCore_j1 a0 a1 a2 v6004 v7001 v8003 true) else (l_FnExactShiftCore_j1 a0 a1 a2 v6004 v7001 v8003 (!decide (v8003.2 = v6004.2)))))))))))
end Go.Proofs.Ytfbnlkaggggmiaa.Ab
