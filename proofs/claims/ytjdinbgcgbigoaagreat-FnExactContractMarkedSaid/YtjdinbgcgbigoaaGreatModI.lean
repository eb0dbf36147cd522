/-
  Models of the functions. Printed by wip/ab/gen.py.
-/
import Derived.Test.YtjdinbgcgbigoaaGreatMod
namespace Go.Proofs.YtjdinbgcgbigoaaGreat.Ab
set_option linter.unusedVariables false
set_option linter.unusedSimpArgs false
set_option maxRecDepth 20000
set_option maxHeartbeats 4000000
open Go.RowKit
def g_Clone_sint64 (a0 : List Int) : Option ((List Int)) :=
 (Option.bind (app? [] a0) fun v4002 => (some v4002))
mutual
def i_mapVars : Nat → Core → Int → (Core → Int → Option Core) → Option (Core)
 | 0,_,_,_ => none
 | n + 1,a0,a1,f2 => (if (decide (a0.kind = 1)) = true then (Option.bind (f2 a0 a1) fun v3003 => (some v3003)) else (Option.bind (g_Clone_sint64 a0.data) fun v4006 => (i_mapVars_l2 n a0 a1 v4006 [] 0 f2)))
def i_mapVars_l2 : Nat → Core → Int → (List Int) → (List Core) → Int → (Core → Int → Option Core) → Option (Core)
 | 0,_,_,_,_,_,_ => none
 | n + 1,a0,a1,v4006,p1_0,p1_1,f2 => (if (decide (p1_1 < ((List.length a0.kids : Nat) : Int))) = true then (Option.bind (at? a0.kids p1_1) fun v7001 => (Option.bind (i_Core_binds a0 p1_1) fun v8006 => (Option.bind (i_mapVars n v7001 (IntKind.i64.wrap (a1 + v8006)) f2) fun v8009 => (Option.bind (app? p1_0 [v8009]) fun v8011 => (i_mapVars_l2 n a0 a1 v4006 v8011 (IntKind.i64.wrap (p1_1 + 1)) f2))))) else (some (⟨a0.kind,a0.value,v4006,p1_0⟩ : Core)))
end
def i_shift_1 (a0 : Core) (a1 : Int) (a2 : Int) (a3 : Int) : Option (Core) :=
 (if (decide ((IntKind.i64.wrap (a1 + a2)) ≤ a0.value)) = true then (Option.bind (emp? a0.data) fun em0 => (Option.bind (emp? a0.kids) fun em1 => (some (⟨a0.kind,(IntKind.i64.wrap (a0.value + a3)),a0.data,a0.kids⟩ : Core)))) else (Option.bind (emp? a0.data) fun em0 => (Option.bind (emp? a0.kids) fun em1 => (some a0))))
def i_shift (a0 : Core) (a1 : Int) (a2 : Int) : Option (Core) :=
 (Option.bind (i_mapVars fuel a0 0 (fun y0 y1 => i_shift_1 y0 y1 a2 a1)) fun v2002 => (some v2002))
def i_instantiate_1 (a0 : Core) (a1 : Int) (a2 : Core) : Option (Core) :=
 (if (decide (a0.value = a1)) = true then (Option.bind (i_shift a2 a1 0) fun v3002 => (some v3002)) else (if (decide (a1 < a0.value)) = true then (Option.bind (emp? a0.data) fun em0 => (Option.bind (emp? a0.kids) fun em1 => (some (⟨a0.kind,(IntKind.i64.wrap (a0.value - 1)),a0.data,a0.kids⟩ : Core)))) else (Option.bind (emp? a0.data) fun em0 => (Option.bind (emp? a0.kids) fun em1 => (some a0)))))
def i_instantiate (a0 : Core) (a1 : Core) : Option (Core) :=
 (Option.bind (i_mapVars fuel a0 0 (fun y0 y1 => i_instantiate_1 y0 y1 a1)) fun v2002 => (some v2002))
mutual
def s_l06Count : Nat → Core → Int → Option (Int)
 | 0,_,_ => none
 | n + 1,a0,a1 => (if (decide (a0.kind = 1)) = true then (if (decide (a0.value = a1)) = true then (some 1) else (some 0)) else (s_l06Count_l1 n a0 a1 0 0))
def s_l06Count_l1 : Nat → Core → Int → Int → Int → Option (Int)
 | 0,_,_,_,_ => none
 | n + 1,a0,a1,p0_0,p0_1 => (if (decide (p0_1 < ((List.length a0.kids : Nat) : Int))) = true then (Option.bind (at? a0.kids p0_1) fun v10006 => (Option.bind (s_l06Binds a0 p0_1) fun v10010 => (Option.bind (s_l06Count n v10006 (IntKind.i64.wrap (a1 + v10010))) fun v10012 => (s_l06Count_l1 n a0 a1 (IntKind.i64.wrap (p0_0 + v10012)) (IntKind.i64.wrap (p0_1 + 1)))))) else (some p0_0))
end
def s_l00Own (a0 : List Int) : Option ((List Int)) :=
 (Option.bind (app? [] a0) fun v2002 => (some v2002))
mutual
def s_l06Shift : Nat → Core → Int → Int → Option (Core)
 | 0,_,_,_ => none
 | n + 1,a0,a1,a2 => (Option.bind (s_l00Own a0.data) fun v2012 => (if (decide (a0.kind = 1)) = true then (s_l06Shift_j1 n a0 a1 a2 v2012 (decide (a2 ≤ a0.value))) else (s_l06Shift_j1 n a0 a1 a2 v2012 false)))
def s_l06Shift_j1 : Nat → Core → Int → Int → (List Int) → Bool → Option (Core)
 | 0,_,_,_,_,_ => none
 | n + 1,a0,a1,a2,v2012,p0_0 => (if p0_0 = true then (s_l06Shift_j2 n a0 a1 a2 v2012 (IntKind.i64.wrap (a0.value + a1))) else (s_l06Shift_j2 n a0 a1 a2 v2012 a0.value))
def s_l06Shift_j2 : Nat → Core → Int → Int → (List Int) → Int → Option (Core)
 | 0,_,_,_,_,_ => none
 | n + 1,a0,a1,a2,v2012,p1_0 => (s_l06Shift_l4 n a0 a1 a2 p1_0 v2012 [] 0)
def s_l06Shift_l4 : Nat → Core → Int → Int → Int → (List Int) → (List Core) → Int → Option (Core)
 | 0,_,_,_,_,_,_,_ => none
 | n + 1,a0,a1,a2,p1_0,v2012,p3_0,p3_1 => (if (decide (p3_1 < ((List.length a0.kids : Nat) : Int))) = true then (Option.bind (at? a0.kids p3_1) fun v8007 => (Option.bind (s_l06Binds a0 p3_1) fun v8012 => (Option.bind (s_l06Shift n v8007 a1 (IntKind.i64.wrap (a2 + v8012))) fun v8014 => (Option.bind (app? p3_0 [v8014]) fun v8016 => (s_l06Shift_l4 n a0 a1 a2 p1_0 v2012 v8016 (IntKind.i64.wrap (p3_1 + 1))))))) else (some (⟨a0.kind,p1_0,v2012,p3_0⟩ : Core)))
end
mutual
def s_l06Put : Nat → Core → Core → Int → Option (Core)
 | 0,_,_,_ => none
 | n + 1,a0,a1,a2 => (if (decide (a0.kind = 1)) = true then (if (decide (a0.value = a2)) = true then (Option.bind (s_l06Shift fuel a1 a2 0) fun v4002 => (some v4002)) else (if (decide (a2 < a0.value)) = true then (some (⟨1,(IntKind.i64.wrap (a0.value - 1)),[],[]⟩ : Core)) else (some (⟨1,a0.value,[],[]⟩ : Core)))) else (Option.bind (s_l00Own a0.data) fun v9012 => (s_l06Put_l2 n a0 a1 a2 v9012 [] 0)))
def s_l06Put_l2 : Nat → Core → Core → Int → (List Int) → (List Core) → Int → Option (Core)
 | 0,_,_,_,_,_,_ => none
 | n + 1,a0,a1,a2,v9012,p1_0,p1_1 => (if (decide (p1_1 < ((List.length a0.kids : Nat) : Int))) = true then (Option.bind (at? a0.kids p1_1) fun v13007 => (Option.bind (s_l06Binds a0 p1_1) fun v13012 => (Option.bind (s_l06Put n v13007 a1 (IntKind.i64.wrap (a2 + v13012))) fun v13014 => (Option.bind (app? p1_0 [v13014]) fun v13016 => (s_l06Put_l2 n a0 a1 a2 v9012 v13016 (IntKind.i64.wrap (p1_1 + 1))))))) else (some (⟨a0.kind,a0.value,v9012,p1_0⟩ : Core)))
end
def s_l00Max (a0 : Int) (a1 : Int) : Option (Int) :=
 (if (decide (a1 < a0)) = true then (some a0) else (some a1))
mutual
def s_l06Depth : Nat → Core → Option (Int)
 | 0,_ => none
 | n + 1,a0 => (s_l06Depth_l1 n a0 0 0)
def s_l06Depth_l1 : Nat → Core → Int → Int → Option (Int)
 | 0,_,_,_ => none
 | n + 1,a0,p0_0,p0_1 => (if (decide (p0_1 < ((List.length a0.kids : Nat) : Int))) = true then (Option.bind (at? a0.kids p0_1) fun v6006 => (Option.bind (s_l06Depth n v6006) fun v6007 => (Option.bind (s_l00Max p0_0 v6007) fun v6008 => (s_l06Depth_l1 n a0 v6008 (IntKind.i64.wrap (p0_1 + 1)))))) else (some (IntKind.i64.wrap (p0_0 + 1))))
end
mutual
def s_l06Highest : Nat → Core → Option (Int)
 | 0,_ => none
 | n + 1,a0 => (if (decide (a0.kind = 1)) = true then (s_l06Highest_j1 n a0 a0.value) else (s_l06Highest_j1 n a0 (-1)))
def s_l06Highest_j1 : Nat → Core → Int → Option (Int)
 | 0,_,_ => none
 | n + 1,a0,p0_0 => (s_l06Highest_l2 n a0 p0_0 0)
def s_l06Highest_l2 : Nat → Core → Int → Int → Option (Int)
 | 0,_,_,_ => none
 | n + 1,a0,p1_0,p1_1 => (if (decide (p1_1 < ((List.length a0.kids : Nat) : Int))) = true then (Option.bind (at? a0.kids p1_1) fun v8006 => (Option.bind (s_l06Highest n v8006) fun v8007 => (Option.bind (s_l00Max p1_0 v8007) fun v8008 => (s_l06Highest_l2 n a0 v8008 (IntKind.i64.wrap (p1_1 + 1)))))) else (some p1_0))
end
def s_l06Instance (a0 : Core) (a1 : Core) : Option (Core × Int) :=
 (Option.bind (s_l06Count fuel a0 0) fun v2001 => (Option.bind (s_l06Nodes fuel a0 80 400) fun v3001 => (Option.bind (s_l06Nodes fuel a1 80 400) fun v3004 => (if (decide (400 < (IntKind.i64.wrap (v3001 + (IntKind.i64.wrap (v2001 * (IntKind.i64.wrap (v3004 - 1)))))))) = true then (some ((⟨0,0,[],[]⟩ : Core),4)) else (Option.bind (s_l06Put fuel a0 a1 0) fun v5002 => (Option.bind (s_l06Depth fuel v5002) fun v6000 => (if (decide (80 < v6000)) = true then (some ((⟨0,0,[],[]⟩ : Core),4)) else (Option.bind (s_l06Highest fuel v5002) fun v8000 => (if (decide (255 < v8000)) = true then (some ((⟨0,0,[],[]⟩ : Core),2)) else (some (v5002,0)))))))))))
end Go.Proofs.YtjdinbgcgbigoaaGreat.Ab
