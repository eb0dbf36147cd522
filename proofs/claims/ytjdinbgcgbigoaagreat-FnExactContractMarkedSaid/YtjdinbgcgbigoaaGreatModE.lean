/-
  Models of the functions. Printed by wip/ab/gen.py.
-/
import Derived.Test.YtjdinbgcgbigoaaGreatModI
namespace Go.Proofs.YtjdinbgcgbigoaaGreat.Ab
set_option linter.unusedVariables false
set_option linter.unusedSimpArgs false
set_option maxRecDepth 20000
set_option maxHeartbeats 4000000
open Go.RowKit
mutual
def s_l08Left : Nat → Core → Int → Option (Int)
 | 0,_,_ => none
 | n + 1,a0,a1 => (s_l08Left_l3 n a0 (IntKind.i64.wrap (a1 - 1)) 0)
def s_l08Left_l3 : Nat → Core → Int → Int → Option (Int)
 | 0,_,_,_ => none
 | n + 1,a0,p0_0,p0_1 => (if (decide (p0_1 < ((List.length a0.kids : Nat) : Int))) = true then (s_l08Left_j4 n a0 p0_0 p0_1 (decide (0 ≤ p0_0))) else (s_l08Left_j4 n a0 p0_0 p0_1 false))
def s_l08Left_j4 : Nat → Core → Int → Int → Bool → Option (Int)
 | 0,_,_,_,_ => none
 | n + 1,a0,p0_0,p0_1,p1_0 => (if p1_0 = true then (Option.bind (at? a0.kids p0_1) fun v6005 => (Option.bind (s_l08Left n v6005 p0_0) fun v6007 => (s_l08Left_l3 n a0 v6007 (IntKind.i64.wrap (p0_1 + 1))))) else (some p0_0))
end
def s_l08Fits (a0 : Core) : Option (Bool) :=
 (Option.bind (s_l08Left fuel a0 400) fun v2001 => (if (decide (0 ≤ v2001)) = true then (Option.bind (s_l06Depth fuel a0) fun v2005 => (some (decide (v2005 ≤ 80)))) else (some false)))
end Go.Proofs.YtjdinbgcgbigoaaGreat.Ab
