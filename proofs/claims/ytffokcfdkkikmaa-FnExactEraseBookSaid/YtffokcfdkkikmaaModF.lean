/-
  Models of the functions. Printed by wip/ab/gen.py.
-/
import Derived.Test.YtffokcfdkkikmaaMTyF
import Derived.Test.YtffokcfdkkikmaaModE
namespace Go.Proofs.Ytffokcfdkkikmaa.Ab
set_option linter.unusedVariables false
set_option linter.unusedSimpArgs false
set_option maxRecDepth 20000
set_option maxHeartbeats 4000000
open Go.RowKit

def s_l08EraseBook_l2 : Nat → Book → (List Core) → Int → Option (Book × Int)
  | 0, _, _, _ => none
  | n + 1, a0, p1_0, p1_1 => (if (decide (p1_1 < ((List.length a0.defs : Nat) : Int))) = true then (Option.bind (at? a0.defs p1_1) fun v6005 => (Option.bind (s_l08Erase fuel v6005) fun v6006 => (if (!decide (v6006.2 = 0)) = true then (some ((⟨[]⟩ : Book), v6006.2)) else (Option.bind (app? p1_0 [v6006.1]) fun v9004 => (s_l08EraseBook_l2 n a0 v9004 (IntKind.i64.wrap (p1_1 + 1))))))) else (some ((⟨p1_0⟩ : Book), 0)))
def s_l08EraseBook (a0 : Book) : Option (Book × Int) :=
  (s_l08EraseBook_l2 fuel a0 [] 0)
def s_EraseBook (a0 : Book) : Option (Book × Int) :=
  (Option.bind (s_l06Book a0) fun v2000 => (if (!v2000) = true then (some ((⟨[]⟩ : Book), 1)) else (Option.bind (s_l08EraseBook a0) fun v4000 => (some (v4000.1, v4000.2)))))
def i_EraseBook_l2 : Nat → Book → (List Core) → Int → Option (Book × Int)
  | 0, _, _, _ => none
  | n + 1, a0, p1_0, p1_1 => (if (decide (p1_1 < ((List.length a0.defs : Nat) : Int))) = true then (Option.bind (at? a0.defs p1_1) fun v7000 => (Option.bind (i_EraseCore v7000) fun v8001 => (if (!decide (v8001.2 = 0)) = true then (some ((⟨[]⟩ : Book), v8001.2)) else (Option.bind (app? p1_0 [v8001.1]) fun v11004 => (i_EraseBook_l2 n a0 v11004 (IntKind.i64.wrap (p1_1 + 1))))))) else (some ((⟨p1_0⟩ : Book), 0)))
def i_EraseBook (a0 : Book) : Option (Book × Int) :=
  (Option.bind (i_ValidBook a0) fun v2001 => (if (!v2001) = true then (some ((⟨[]⟩ : Book), 1)) else (i_EraseBook_l2 fuel a0 [] 0)))
def l_markBook (a0 : Book) (a1 : Int) : Option (Int × (List Core)) :=
  (Option.bind (l_markCoreS fuel a0.defs a1) fun v2003 => (some (v2003.1, v2003.2)))
def l_heldBook (a0 : Book) (a1 : Int) : Option (Int) :=
  (Option.bind (l_heldCoreS fuel a0.defs a1) fun v2003 => (if (decide (v2003 < 0)) = true then (some (-1)) else (some v2003)))
def l_FnExactEraseBook_j3 (v18002 : Int × (List Core)) (p2_0 : Bool) : Option (Bool) :=
  (if p2_0 = true then (some false) else (Option.bind (l_heldBook (⟨v18002.2⟩ : Book) 1) fun v29002 => (if (decide (v29002 < 0)) = true then (some false) else (if (!decide (v29002 = v18002.1)) = true then (some false) else (some true)))))
def l_FnExactEraseBook_j2 (a0 : Book) (v6002 : Book × Int) (v8001 : Book × Int) (p1_0 : Bool) : Option (Bool) :=
  (if p1_0 = true then (some false) else (Option.bind (l_markBook v8001.1 1) fun v18002 => (Option.bind (l_heldBook (⟨v18002.2⟩ : Book) 1) fun v20002 => (if (decide (v20002 < 0)) = true then (some false) else (if (!decide (v20002 = v18002.1)) = true then (some false) else (Option.bind (l_toBook a0) fun v25001 => (Option.bind (i_EraseBook v25001) fun v25002 => (Option.bind (l_eqBook v25002.1 v6002.1) fun v26002 => (if (!v26002) = true then (l_FnExactEraseBook_j3 v18002 true) else (l_FnExactEraseBook_j3 v18002 (!decide (v25002.2 = v6002.2))))))))))))
def l_FnExactEraseBook_j1 (a0 : Book) (v6002 : Book × Int) (v7001 : Book) (v8001 : Book × Int) (p0_0 : Bool) : Option (Bool) :=
  (if p0_0 = true then (some false) else (Option.bind (l_toBook a0) fun v11002 => (Option.bind (l_eqBook v7001 v11002) fun v11003 => (if (!v11003) = true then (some false) else (Option.bind (l_markBook v7001 1) fun v14002 => (if (decide (v14002.1 < 0)) = true then (l_FnExactEraseBook_j2 a0 v6002 v8001 true) else (Option.bind (l_eqBook v8001.1 v6002.1) fun v15005 => (if (!v15005) = true then (l_FnExactEraseBook_j2 a0 v6002 v8001 true) else (l_FnExactEraseBook_j2 a0 v6002 v8001 (!decide (v8001.2 = v6002.2)))))))))))
def l_FnExactEraseBook (a0 : Book) : Option (Bool) :=
  (Option.bind (l_szBook a0 1048576) fun v3002 => (if (decide (v3002 < 0)) = true then (some true) else (Option.bind (l_toBook a0) fun v6001 => (Option.bind (s_EraseBook v6001) fun v6002 => (Option.bind (l_toBook a0) fun v7001 => (Option.bind (i_EraseBook v7001) fun v8001 => (Option.bind (l_eqBook v8001.1 v6002.1) fun v9002 => (if (!v9002) = true then (l_FnExactEraseBook_j1 a0 v6002 v7001 v8001 true) else (l_FnExactEraseBook_j1 a0 v6002 v7001 v8001 (!decide (v8001.2 = v6002.2)))))))))))
end Go.Proofs.Ytffokcfdkkikmaa.Ab
