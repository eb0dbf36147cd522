/-
  Models of the functions. Printed by wip/ab/gen.py.
-/
import Derived.Test.YtffokcfdkkikmaaMTyE
import Derived.Test.YtffokcfdkkikmaaModI
namespace Go.Proofs.Ytffokcfdkkikmaa.Ab
set_option linter.unusedVariables false
set_option linter.unusedSimpArgs false
set_option maxRecDepth 20000
set_option maxHeartbeats 4000000
open Go.RowKit

mutual
def s_l08Left : Nat → Core → Int → Option (Int)
  | 0, _, _ => none
  | n + 1, a0, a1 => (s_l08Left_l3 n a0 (IntKind.i64.wrap (a1 - 1)) 0)
def s_l08Left_l3 : Nat → Core → Int → Int → Option (Int)
  | 0, _, _, _ => none
  | n + 1, a0, p0_0, p0_1 => (if (decide (p0_1 < ((List.length a0.kids : Nat) : Int))) = true then (s_l08Left_j4 n a0 p0_0 p0_1 (decide (0 ≤ p0_0))) else (s_l08Left_j4 n a0 p0_0 p0_1 false))
def s_l08Left_j4 : Nat → Core → Int → Int → Bool → Option (Int)
  | 0, _, _, _, _ => none
  | n + 1, a0, p0_0, p0_1, p1_0 => (if p1_0 = true then (Option.bind (at? a0.kids p0_1) fun v6005 => (Option.bind (s_l08Left n v6005 p0_0) fun v6007 => (s_l08Left_l3 n a0 v6007 (IntKind.i64.wrap (p0_1 + 1))))) else (some p0_0))
end
def s_l08Fits (a0 : Core) : Option (Bool) :=
  (Option.bind (s_l08Left fuel a0 400) fun v2001 => (if (decide (0 ≤ v2001)) = true then (Option.bind (s_l06Depth fuel a0) fun v2005 => (some (decide (v2005 ≤ 80)))) else (some false)))
mutual
def s_l08Erase : Nat → Core → Option (Core × Int)
  | 0, _ => none
  | n + 1, a0 => (Option.bind (s_l00Own a0.data) fun v2012 => (s_l08Erase_l2 n a0 v2012 [] 0))
def s_l08Erase_l2 : Nat → Core → (List Int) → (List Core) → Int → Option (Core × Int)
  | 0, _, _, _, _ => none
  | n + 1, a0, v2012, p1_0, p1_1 => (if (decide (p1_1 < ((List.length a0.kids : Nat) : Int))) = true then (Option.bind (at? a0.kids p1_1) fun v6005 => (Option.bind (s_l08Erase n v6005) fun v6006 => (if (!decide (v6006.2 = 0)) = true then (some ((⟨0, 0, [], []⟩ : Core), v6006.2)) else (Option.bind (app? p1_0 [(⟨0, 0, [], []⟩ : Core)]) fun v9005 => (Option.bind (at? v9005 ((List.length p1_0 : Nat) : Int)) fun v9006 => (Option.bind (set1? v9005 ((List.length p1_0 : Nat) : Int) v6006.1) fun v9007_12 => (s_l08Erase_l2 n a0 v2012 v9007_12 (IntKind.i64.wrap (p1_1 + 1))))))))) else (if (decide (a0.kind = 6)) = true then (Option.bind (at? p1_0 0) fun v12002 => (some (v12002, 0))) else (if (decide (a0.kind = 7)) = true then (Option.bind (at? p1_0 1) fun v14002 => (Option.bind (at? p1_0 0) fun v14005 => (Option.bind (s_l06Instance v14002 v14005) fun v14006 => (some (v14006.1, v14006.2))))) else (Option.bind (s_l08Fits (⟨a0.kind, a0.value, v2012, p1_0⟩ : Core)) fun v15000 => (if (!v15000) = true then (some ((⟨0, 0, [], []⟩ : Core), 4)) else (some ((⟨a0.kind, a0.value, v2012, p1_0⟩ : Core), 0)))))))
end
def s_EraseCore (a0 : Core) : Option (Core × Int) :=
  (Option.bind (s_l06Closed a0) fun v2000 => (if (!v2000) = true then (some ((⟨0, 0, [], []⟩ : Core), 1)) else (Option.bind (s_l08Erase fuel a0) fun v4000 => (some (v4000.1, v4000.2)))))
def i_erase_j3 (p2_0 : Int) (p2_1 : Int) (p2_2 : List Int) (p2_3 : List Core) : Option (Core × Bool) :=
  (Option.bind (i_coreFits (⟨p2_0, p2_1, p2_2, p2_3⟩ : Core)) fun v16002 => (some ((⟨p2_0, p2_1, p2_2, p2_3⟩ : Core), v16002)))
mutual
def i_erase : Nat → Core → Option (Core × Bool)
  | 0, _ => none
  | n + 1, a0 => (Option.bind (g_Clone_sint64 a0.data) fun v2006 => (i_erase_l2 n a0 v2006 [] 0))
def i_erase_l2 : Nat → Core → (List Int) → (List Core) → Int → Option (Core × Bool)
  | 0, _, _, _, _ => none
  | n + 1, a0, v2006, p1_0, p1_1 => (if (decide (p1_1 < ((List.length a0.kids : Nat) : Int))) = true then (Option.bind (at? a0.kids p1_1) fun v5000 => (Option.bind (i_erase n v5000) fun v6001 => (if (!v6001.2) = true then (some ((⟨0, 0, [], []⟩ : Core), false)) else (Option.bind (app? p1_0 [v6001.1]) fun v9004 => (i_erase_l2 n a0 v2006 v9004 (IntKind.i64.wrap (p1_1 + 1))))))) else (if (decide (a0.kind = 6)) = true then (Option.bind (at? p1_0 0) fun v13002 => (i_erase_j3 v13002.kind v13002.value v13002.data v13002.kids)) else (if (decide (a0.kind = 7)) = true then (Option.bind (at? p1_0 1) fun v15002 => (Option.bind (at? p1_0 0) fun v15006 => (Option.bind (i_instantiate v15002 v15006) fun v15008 => (i_erase_j3 v15008.kind v15008.value v15008.data v15008.kids)))) else (i_erase_j3 a0.kind a0.value v2006 p1_0))))
end
def i_EraseCore (a0 : Core) : Option (Core × Int) :=
  (Option.bind (i_IsClosed a0) fun v2001 => (if (!v2001) = true then (some ((⟨0, 0, [], []⟩ : Core), 1)) else (Option.bind (i_erase fuel a0) fun v4001 => (if (!v4001.2) = true then (some ((⟨0, 0, [], []⟩ : Core), 4)) else (some (v4001.1, 0))))))
def l_FnExactEraseCore_j3 (v8001 : Core × Int) (v18002 : Int × (List Int) × (List Core)) (p2_0 : Bool) : Option (Bool) :=
  (if p2_0 = true then (some false) else (Option.bind (l_heldCore (⟨v8001.1.kind, v8001.1.value, v18002.2.1, v18002.2.2⟩ : Core) 1) fun v29002 => (if (decide (v29002 < 0)) = true then (some false) else (if (!decide (v29002 = v18002.1)) = true then (some false) else (some true)))))
def l_FnExactEraseCore_j2 (a0 : Core) (v6002 : Core × Int) (v8001 : Core × Int) (p1_0 : Bool) : Option (Bool) :=
  (if p1_0 = true then (some false) else (Option.bind (l_markCore v8001.1 1) fun v18002 => (Option.bind (l_heldCore (⟨v8001.1.kind, v8001.1.value, v18002.2.1, v18002.2.2⟩ : Core) 1) fun v20002 => (if (decide (v20002 < 0)) = true then (some false) else (if (!decide (v20002 = v18002.1)) = true then (some false) else (Option.bind (l_toCore fuel a0) fun v25001 => (Option.bind (i_EraseCore v25001) fun v25002 => (Option.bind (l_eqCore fuel v25002.1 v6002.1) fun v26002 => (if (!v26002) = true then (l_FnExactEraseCore_j3 v8001 v18002 true) else (l_FnExactEraseCore_j3 v8001 v18002 (!decide (v25002.2 = v6002.2))))))))))))
def l_FnExactEraseCore_j1 (a0 : Core) (v6002 : Core × Int) (v7001 : Core) (v8001 : Core × Int) (p0_0 : Bool) : Option (Bool) :=
  (if p0_0 = true then (some false) else (Option.bind (l_toCore fuel a0) fun v11002 => (Option.bind (l_eqCore fuel v7001 v11002) fun v11003 => (if (!v11003) = true then (some false) else (Option.bind (l_markCore v7001 1) fun v14002 => (if (decide (v14002.1 < 0)) = true then (l_FnExactEraseCore_j2 a0 v6002 v8001 true) else (Option.bind (l_eqCore fuel v8001.1 v6002.1) fun v15005 => (if (!v15005) = true then (l_FnExactEraseCore_j2 a0 v6002 v8001 true) else (l_FnExactEraseCore_j2 a0 v6002 v8001 (!decide (v8001.2 = v6002.2)))))))))))
def l_FnExactEraseCore (a0 : Core) : Option (Bool) :=
  (Option.bind (l_szCore fuel a0 1048576) fun v3002 => (if (decide (v3002 < 0)) = true then (some true) else (Option.bind (l_toCore fuel a0) fun v6001 => (Option.bind (s_EraseCore v6001) fun v6002 => (Option.bind (l_toCore fuel a0) fun v7001 => (Option.bind (i_EraseCore v7001) fun v8001 => (Option.bind (l_eqCore fuel v8001.1 v6002.1) fun v9002 => (if (!v9002) = true then (l_FnExactEraseCore_j1 a0 v6002 v7001 v8001 true) else (l_FnExactEraseCore_j1 a0 v6002 v7001 v8001 (!decide (v8001.2 = v6002.2)))))))))))
end Go.Proofs.Ytffokcfdkkikmaa.Ab
