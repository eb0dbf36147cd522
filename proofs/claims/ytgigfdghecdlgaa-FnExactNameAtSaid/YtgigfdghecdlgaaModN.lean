/-
  Models of the functions. Printed by wip/ab/gen.py.
-/
import Derived.Test.YtgigfdghecdlgaaModS
namespace Go.Proofs.Ytgigfdghecdlgaa.Ab
set_option linter.unusedVariables false
set_option linter.unusedSimpArgs false
set_option maxRecDepth 20000
set_option maxHeartbeats 4000000
open Go.RowKit

def l_szInt64S (a0 : List Int) (a1 : Int) : Option (Int) :=
  (if (decide ((IntKind.i64.wrap (a1 - ((List.length a0 : Nat) : Int))) < 0)) = true then (some (-1)) else (some (IntKind.i64.wrap (a1 - ((List.length a0 : Nat) : Int)))))
mutual
def l_szCoreS : Nat → (List Core) → Int → Option (Int)
  | 0, _, _ => none
  | n + 1, a0, a1 => (if (decide ((IntKind.i64.wrap (a1 - ((List.length a0 : Nat) : Int))) < 0)) = true then (some (-1)) else (l_szCoreS_l1 n a0 (IntKind.i64.wrap (a1 - ((List.length a0 : Nat) : Int))) 0))
def l_szCoreS_l1 : Nat → (List Core) → Int → Int → Option (Int)
  | 0, _, _, _ => none
  | n + 1, a0, p0_0, p0_1 => (if (decide (p0_1 < ((List.length a0 : Nat) : Int))) = true then (Option.bind (at? a0 p0_1) fun v8002 => (Option.bind (l_szCore n v8002 p0_0) fun v8005 => (if (decide (v8005 < 0)) = true then (some (-1)) else (l_szCoreS_l1 n a0 v8005 (IntKind.i64.wrap (p0_1 + 1)))))) else (some p0_0))
def l_szCore : Nat → Core → Int → Option (Int)
  | 0, _, _ => none
  | n + 1, a0, a1 => (Option.bind (l_szInt64S a0.data a1) fun v2003 => (if (decide (v2003 < 0)) = true then (some (-1)) else (Option.bind (l_szCoreS n a0.kids v2003) fun v5003 => (if (decide (v5003 < 0)) = true then (some (-1)) else (some v5003)))))
end
def l_szStringS_l1 : Nat → (List ByteArray) → Int → Int → Option (Int)
  | 0, _, _, _ => none
  | n + 1, a0, p0_0, p0_1 => (if (decide (p0_1 < ((List.length a0 : Nat) : Int))) = true then (Option.bind (at? a0 p0_1) fun v8003 => (if (decide ((IntKind.i64.wrap (p0_0 - ((ByteArray.size v8003 : Nat) : Int))) < 0)) = true then (some (-1)) else (l_szStringS_l1 n a0 (IntKind.i64.wrap (p0_0 - ((ByteArray.size v8003 : Nat) : Int))) (IntKind.i64.wrap (p0_1 + 1))))) else (some p0_0))
def l_szStringS (a0 : List ByteArray) (a1 : Int) : Option (Int) :=
  (if (decide ((IntKind.i64.wrap (a1 - ((List.length a0 : Nat) : Int))) < 0)) = true then (some (-1)) else (l_szStringS_l1 fuel a0 (IntKind.i64.wrap (a1 - ((List.length a0 : Nat) : Int))) 0))
def l_szLabelled (a0 : Labelled) (a1 : Int) : Option (Int) :=
  (Option.bind (l_szCore fuel a0.term a1) fun v2003 => (if (decide (v2003 < 0)) = true then (some (-1)) else (Option.bind (l_szStringS a0.labels v2003) fun v5003 => (if (decide (v5003 < 0)) = true then (some (-1)) else (some v5003)))))
def s_NameAt_j1 (v4001 : L38T × Bool) (p0_0 : Bool) : Option (ByteArray × Int) :=
  (if p0_0 = true then (some ((ByteArray.mk #[]), 2)) else (Option.bind (s_l38Name v4001.1) fun v7001 => (some (v7001, 0))))
def s_NameAt (a0 : Labelled) (a1 : Int) : Option (ByteArray × Int) :=
  (Option.bind (s_l38Ok a0) fun v2000 => (if (!v2000) = true then (some ((ByteArray.mk #[]), 1)) else (Option.bind (s_l38At a0 a1) fun v4001 => (if (!v4001.2) = true then (s_NameAt_j1 v4001 true) else (Option.bind (s_l38Kind v4001.1) fun v5004 => (s_NameAt_j1 v4001 (decide (v5004 = 0))))))))
def l_toInt64S_l2 : Nat → (List Int) → (List Int) → Int → Option ((List Int))
  | 0, _, _, _ => none
  | n + 1, a0, p1_0, p1_1 => (if (decide (p1_1 < ((List.length a0 : Nat) : Int))) = true then (Option.bind (at? a0 p1_1) fun v6004 => (Option.bind (at? p1_0 p1_1) fun v6006 => (Option.bind (set1? p1_0 p1_1 v6004) fun v6007_12 => (l_toInt64S_l2 n a0 v6007_12 (IntKind.i64.wrap (p1_1 + 1)))))) else (some p1_0))
def l_toInt64S (a0 : List Int) : Option ((List Int)) :=
  (Option.bind (rep? ((List.length a0 : Nat) : Int) (0 : Int)) fun v2002 => (l_toInt64S_l2 fuel a0 v2002 0))
mutual
def l_toCoreS : Nat → (List Core) → Option ((List Core))
  | 0, _ => none
  | n + 1, a0 => (Option.bind (rep? ((List.length a0 : Nat) : Int) (⟨0, 0, [], []⟩ : Core)) fun v2002 => (l_toCoreS_l2 n a0 v2002 0))
def l_toCoreS_l2 : Nat → (List Core) → (List Core) → Int → Option ((List Core))
  | 0, _, _, _ => none
  | n + 1, a0, p1_0, p1_1 => (if (decide (p1_1 < ((List.length a0 : Nat) : Int))) = true then (Option.bind (at? a0 p1_1) fun v6004 => (Option.bind (l_toCore n v6004) fun v6006 => (Option.bind (at? p1_0 p1_1) fun v6007 => (Option.bind (set1? p1_0 p1_1 v6006) fun v6008_12 => (l_toCoreS_l2 n a0 v6008_12 (IntKind.i64.wrap (p1_1 + 1))))))) else (some p1_0))
def l_toCore : Nat → Core → Option (Core)
  | 0, _ => none
  | n + 1, a0 => (Option.bind (l_toInt64S a0.data) fun v5002 => (Option.bind (l_toCoreS n a0.kids) fun v6002 => (some (⟨a0.kind, a0.value, v5002, v6002⟩ : Core))))
end
def l_toStringS_l2 : Nat → (List ByteArray) → (List ByteArray) → Int → Option ((List ByteArray))
  | 0, _, _, _ => none
  | n + 1, a0, p1_0, p1_1 => (if (decide (p1_1 < ((List.length a0 : Nat) : Int))) = true then (Option.bind (at? a0 p1_1) fun v6004 => (Option.bind (at? p1_0 p1_1) fun v6006 => (Option.bind (set1? p1_0 p1_1 v6004) fun v6007_12 => (l_toStringS_l2 n a0 v6007_12 (IntKind.i64.wrap (p1_1 + 1)))))) else (some p1_0))
def l_toStringS (a0 : List ByteArray) : Option ((List ByteArray)) :=
  (Option.bind (rep? ((List.length a0 : Nat) : Int) ByteArray.empty) fun v2002 => (l_toStringS_l2 fuel a0 v2002 0))
def l_toLabelled (a0 : Labelled) : Option (Labelled) :=
  (Option.bind (l_toCore fuel a0.term) fun v3002 => (Option.bind (l_toStringS a0.labels) fun v4002 => (some (⟨v3002, v4002⟩ : Labelled))))
def i_NameAt (a0 : Labelled) (a1 : Int) : Option (ByteArray × Int) :=
  (Option.bind (i_ValidLabelled a0) fun v2001 => (if (!v2001) = true then (some ((ByteArray.mk #[]), 1)) else (Option.bind (i_Labelled_root a0) fun v4001 => (Option.bind (i_labelNode_redexes fuel v4001 []) fun v4002 => (Option.bind (i_redexAt v4002 a1) fun v4004 => (opt2 v4004 (some ((ByteArray.mk #[]), 2)) (fun v4004_9 => (Option.bind (i_labelNode_redexName v4004_9) fun v7001 => (some (v7001, 0))))))))))
def l_eqStringS_l1 : Nat → (List ByteArray) → (List ByteArray) → Int → Option (Bool)
  | 0, _, _, _ => none
  | n + 1, a0, a1, p0_0 => (if (decide (p0_0 < ((List.length a0 : Nat) : Int))) = true then (Option.bind (at? a0 p0_0) fun v7002 => (Option.bind (at? a1 p0_0) fun v7006 => (if (!sameStr v7002 v7006) = true then (some false) else (l_eqStringS_l1 n a0 a1 (IntKind.i64.wrap (p0_0 + 1)))))) else (some true))
def l_eqStringS (a0 : List ByteArray) (a1 : List ByteArray) : Option (Bool) :=
  (if (!decide (((List.length a0 : Nat) : Int) = ((List.length a1 : Nat) : Int))) = true then (some false) else (l_eqStringS_l1 fuel a0 a1 0))
def l_eqInt64S_l1 : Nat → (List Int) → (List Int) → Int → Option (Bool)
  | 0, _, _, _ => none
  | n + 1, a0, a1, p0_0 => (if (decide (p0_0 < ((List.length a0 : Nat) : Int))) = true then (Option.bind (at? a0 p0_0) fun v7002 => (Option.bind (at? a1 p0_0) fun v7006 => (if (!decide (v7002 = v7006)) = true then (some false) else (l_eqInt64S_l1 n a0 a1 (IntKind.i64.wrap (p0_0 + 1)))))) else (some true))
def l_eqInt64S (a0 : List Int) (a1 : List Int) : Option (Bool) :=
  (if (!decide (((List.length a0 : Nat) : Int) = ((List.length a1 : Nat) : Int))) = true then (some false) else (l_eqInt64S_l1 fuel a0 a1 0))
mutual
def l_eqCoreS : Nat → (List Core) → (List Core) → Option (Bool)
  | 0, _, _ => none
  | n + 1, a0, a1 => (if (!decide (((List.length a0 : Nat) : Int) = ((List.length a1 : Nat) : Int))) = true then (some false) else (l_eqCoreS_l1 n a0 a1 0))
def l_eqCoreS_l1 : Nat → (List Core) → (List Core) → Int → Option (Bool)
  | 0, _, _, _ => none
  | n + 1, a0, a1, p0_0 => (if (decide (p0_0 < ((List.length a0 : Nat) : Int))) = true then (Option.bind (at? a0 p0_0) fun v7002 => (Option.bind (at? a1 p0_0) fun v7006 => (Option.bind (l_eqCore n v7002 v7006) fun v7008 => (if (!v7008) = true then (some false) else (l_eqCoreS_l1 n a0 a1 (IntKind.i64.wrap (p0_0 + 1))))))) else (some true))
def l_eqCore : Nat → Core → Core → Option (Bool)
  | 0, _, _ => none
  | n + 1, a0, a1 => (if (!decide (a0.kind = a1.kind)) = true then (some false) else (if (!decide (a0.value = a1.value)) = true then (some false) else (Option.bind (l_eqInt64S a0.data a1.data) fun v6004 => (if (!v6004) = true then (some false) else (Option.bind (l_eqCoreS n a0.kids a1.kids) fun v8004 => (if (!v8004) = true then (some false) else (some true)))))))
end
def l_eqLabelled (a0 : Labelled) (a1 : Labelled) : Option (Bool) :=
  (Option.bind (l_eqCore fuel a0.term a1.term) fun v2004 => (if (!v2004) = true then (some false) else (Option.bind (l_eqStringS a0.labels a1.labels) fun v4004 => (if (!v4004) = true then (some false) else (some true)))))
def l_FnExactNameAt_j1 (a0 : Labelled) (v7001 : Labelled) (p0_0 : Bool) : Option (Bool) :=
  (if p0_0 = true then (some false) else (Option.bind (l_toLabelled a0) fun v11002 => (Option.bind (l_eqLabelled v7001 v11002) fun v11003 => (if (!v11003) = true then (some false) else (some true)))))
def l_FnExactNameAt (a0 : Labelled) (a1 : Int) : Option (Bool) :=
  (Option.bind (l_szLabelled a0 1048576) fun v3002 => (if (decide (v3002 < 0)) = true then (some true) else (Option.bind (l_toLabelled a0) fun v6001 => (Option.bind (s_NameAt v6001 a1) fun v6003 => (Option.bind (l_toLabelled a0) fun v7001 => (Option.bind (i_NameAt v7001 a1) fun v8002 => (if (!sameStr v8002.1 v6003.1) = true then (l_FnExactNameAt_j1 a0 v7001 true) else (l_FnExactNameAt_j1 a0 v7001 (!decide (v8002.2 = v6003.2))))))))))
end Go.Proofs.Ytgigfdghecdlgaa.Ab
