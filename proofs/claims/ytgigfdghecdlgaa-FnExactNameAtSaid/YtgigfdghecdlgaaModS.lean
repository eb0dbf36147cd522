/-
  Models of the functions. Printed by wip/ab/gen.py.
-/
import Derived.Test.YtgigfdghecdlgaaMTyS
import Derived.Test.YtgigfdghecdlgaaModR
namespace Go.Proofs.Ytgigfdghecdlgaa.Ab
set_option linter.unusedVariables false
set_option linter.unusedSimpArgs false
set_option maxRecDepth 20000
set_option maxHeartbeats 4000000
open Go.RowKit

mutual
def s_l38Tree : Nat → Core → (List ByteArray) → Int → Option (L38T × Int)
  | 0, _, _, _ => none
  | n + 1, a0, a1, a2 => (Option.bind (at? a1 a2) fun v2016 => (s_l38Tree_l2 n a0 a1 v2016 (IntKind.i64.wrap (a2 + 1)) [] 0))
def s_l38Tree_l2 : Nat → Core → (List ByteArray) → ByteArray → Int → (List L38T) → Int → Option (L38T × Int)
  | 0, _, _, _, _, _, _ => none
  | n + 1, a0, a1, v2016, p1_0, p1_1, p1_2 => (if (decide (p1_2 < ((List.length a0.kids : Nat) : Int))) = true then (Option.bind (at? a0.kids p1_2) fun v7007 => (Option.bind (s_l38Tree n v7007 a1 p1_0) fun v7010 => (Option.bind (app? p1_1 [v7010.1]) fun v7012 => (s_l38Tree_l2 n a0 a1 v2016 v7010.2 v7012 (IntKind.i64.wrap (p1_2 + 1)))))) else (some ((⟨a0.kind, a0.value, a0.data, v2016, p1_1⟩ : L38T), p1_0)))
end
mutual
def s_l38Find : Nat → L38T → Int → Option (L38T × Bool × Int)
  | 0, _, _ => none
  | n + 1, a0, a1 => (if (decide (a1 = 0)) = true then (some (a0, true, a1)) else (s_l38Find_l1 n a0 (IntKind.i64.wrap (a1 - 1)) 0))
def s_l38Find_l1 : Nat → L38T → Int → Int → Option (L38T × Bool × Int)
  | 0, _, _, _ => none
  | n + 1, a0, p0_0, p0_1 => (if (decide (p0_1 < ((List.length a0.kids : Nat) : Int))) = true then (Option.bind (at? a0.kids p0_1) fun v8005 => (Option.bind (s_l38Find n v8005 p0_0) fun v8007 => (if v8007.2.1 = true then (some (v8007.1, true, v8007.2.2)) else (s_l38Find_l1 n a0 v8007.2.2 (IntKind.i64.wrap (p0_1 + 1)))))) else (some (a0, false, p0_0)))
end
def s_l38At_j1 (a1 : Int) (v5007 : L38T × Int) : Option (L38T × Bool) :=
  (Option.bind (s_l38Find fuel v5007.1 a1) fun v6000 => (some (v6000.1, v6000.2.1)))
def s_l38At (a0 : Labelled) (a1 : Int) : Option (L38T × Bool) :=
  (Option.bind (s_l00In a1 0 (IntKind.i64.wrap (((List.length a0.labels : Nat) : Int) - 1))) fun v2007 => (if (!v2007) = true then (some ((⟨0, 0, [], ByteArray.empty, []⟩ : L38T), false)) else (Option.bind (s_l38Tree fuel a0.term a0.labels 0) fun v5007 => (s_l38At_j1 a1 v5007))))
def s_l08Kind_j1 (a0 : Core) (p0_0 : Bool) : Option (Int) :=
  (if p0_0 = true then (some 3) else (Option.bind (at? a0.kids 0) fun v21004 => (if (decide (v21004.kind = 11)) = true then (some 4) else (some 0))))
def s_l08Kind (a0 : Core) : Option (Int) :=
  (if (decide (a0.kind = 5)) = true then (Option.bind (at? a0.kids 0) fun v4004 => (if (decide (v4004.kind = 4)) = true then (some 1) else (if (decide (v4004.kind = 11)) = true then (some 4) else (some 0)))) else (if (decide (a0.kind = 3)) = true then (Option.bind (at? a0.kids 0) fun v10004 => (if (decide (v10004.kind = 11)) = true then (some 4) else (Option.bind (at? a0.kids 0) fun v12004 => (if (decide (v12004.kind = 2)) = true then (Option.bind (at? a0.kids 1) fun v13004 => (if (decide (v13004.kind = 2)) = true then (some 2) else (if (decide (v13004.kind = 11)) = true then (some 4) else (some 0)))) else (some 0))))) else (if (decide (a0.kind = 9)) = true then (Option.bind (at? a0.kids 0) fun v19004 => (if (decide (v19004.kind = 8)) = true then (Option.bind (at? a0.kids 0) fun v19013 => (s_l08Kind_j1 a0 (decide (v19013.value < ((List.length a0.data : Nat) : Int))))) else (s_l08Kind_j1 a0 false))) else (if (decide (a0.kind = 10)) = true then (Option.bind (at? a0.kids 0) fun v24004 => (if (decide (v24004.kind = 2)) = true then (some 3) else (if (decide (v24004.kind = 11)) = true then (some 4) else (some 0)))) else (some 0)))))
def s_l38Kind_l2 : Nat → L38T → (List Core) → Int → Option (Int)
  | 0, _, _, _ => none
  | n + 1, a0, p1_0, p1_1 => (if (decide (p1_1 < ((List.length a0.kids : Nat) : Int))) = true then (Option.bind (at? a0.kids p1_1) fun v6007 => (Option.bind (at? a0.kids p1_1) fun v6015 => (Option.bind (app? p1_0 [(⟨0, 0, [], []⟩ : Core)]) fun v6021 => (Option.bind (at? v6021 ((List.length p1_0 : Nat) : Int)) fun v6022 => (Option.bind (set1? v6021 ((List.length p1_0 : Nat) : Int) (⟨v6007.kind, v6015.value, [], []⟩ : Core)) fun v6023_12 => (s_l38Kind_l2 n a0 v6023_12 (IntKind.i64.wrap (p1_1 + 1)))))))) else (Option.bind (s_l08Kind (⟨a0.kind, a0.value, a0.data, p1_0⟩ : Core)) fun v7000 => (some v7000)))
def s_l38Kind (a0 : L38T) : Option (Int) :=
  (s_l38Kind_l2 fuel a0 [] 0)
def s_l38Name_j1 (a0 : L38T) (p0_0 : Bool) : Option (ByteArray) :=
  (if p0_0 = true then (Option.bind (at? a0.kids 0) fun v3004 => (Option.bind (sapp? v3004.label (ByteArray.mk #[38])) fun v3007 => (Option.bind (at? a0.kids 1) fun v3012 => (Option.bind (sapp? v3007 v3012.label) fun v3015 => (some v3015))))) else (Option.bind (at? a0.kids 0) fun v4004 => (some v4004.label)))
def s_l38Name (a0 : L38T) : Option (ByteArray) :=
  (if (decide (a0.kind = 3)) = true then (Option.bind (at? a0.kids 0) fun v2010 => (s_l38Name_j1 a0 (decide (v2010.kind = 2)))) else (s_l38Name_j1 a0 false))
end Go.Proofs.Ytgigfdghecdlgaa.Ab
