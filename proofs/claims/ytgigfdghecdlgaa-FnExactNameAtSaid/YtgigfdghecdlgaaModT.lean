/-
  Models of the functions. Printed by wip/ab/gen.py.
-/
import Derived.Test.YtgigfdghecdlgaaMTyT
import Derived.Test.YtgigfdghecdlgaaMod
namespace Go.Proofs.Ytgigfdghecdlgaa.Ab
set_option linter.unusedVariables false
set_option linter.unusedSimpArgs false
set_option maxRecDepth 20000
set_option maxHeartbeats 4000000
open Go.RowKit

mutual
def i_Labelled_tree : Nat → Labelled → Core → Int → Option (LabelNode × Int)
  | 0, _, _, _ => none
  | n + 1, a0, a1, a2 => (Option.bind (at? a0.labels a2) fun v2006 => (i_Labelled_tree_l2 n a0 a1 a2 v2006 (IntKind.i64.wrap (a2 + 1)) [] 0))
def i_Labelled_tree_l2 : Nat → Labelled → Core → Int → ByteArray → Int → (List LabelNode) → Int → Option (LabelNode × Int)
  | 0, _, _, _, _, _, _, _ => none
  | n + 1, a0, a1, a2, v2006, p1_0, p1_1, p1_2 => (if (decide (p1_2 < ((List.length a1.kids : Nat) : Int))) = true then (Option.bind (at? a1.kids p1_2) fun v6000 => (Option.bind (i_Labelled_tree n a0 v6000 p1_0) fun v7008 => (Option.bind (app? p1_1 [v7008.1]) fun v7010 => (i_Labelled_tree_l2 n a0 a1 a2 v2006 v7008.2 v7010 (IntKind.i64.wrap (p1_2 + 1)))))) else (some ((⟨a1, v2006, a2, p1_1⟩ : LabelNode), p1_0)))
end
def i_Labelled_root (a0 : Labelled) : Option (LabelNode) :=
  (Option.bind (i_Labelled_tree fuel a0 a0.term 0) fun v3003 => (some v3003.1))
end Go.Proofs.Ytgigfdghecdlgaa.Ab
