/-
  Models of the functions. Printed by wip/ab/gen.py.
-/
import Derived.Test.YtlmanchbpommaaaDoorMTyP
import Derived.Test.YtlmanchbpommaaaDoorModC
namespace Go.Proofs.YtlmanchbpommaaaDoor.Ab
set_option linter.unusedVariables false
set_option linter.unusedSimpArgs false
set_option maxRecDepth 20000
set_option maxHeartbeats 4000000
open Go.RowKit

mutual
def l_szCoreS : Nat → (List Core) → Int → Option (Int)
  | 0, _, _ => none
  | n + 1, a0, a1 => (if (decide ((IntKind.i64.wrap (a1 - ((List.length a0 : Nat) : Int))) < 0)) = true then (some (-1)) else (l_szCoreS_l1 n a0 (IntKind.i64.wrap (a1 - ((List.length a0 : Nat) : Int))) 0))
def l_szCoreS_l1 : Nat → (List Core) → Int → Int → Option (Int)
  | 0, _, _, _ => none
  | n + 1, a0, p0_0, p0_1 => (if (decide (p0_1 < ((List.length a0 : Nat) : Int))) = true then (Option.bind (at? a0 p0_1) fun v8002 => (Option.bind (l_szCore n v8002 p0_0) fun v8005 => (if (decide (v8005 < 0)) = true then (some (-1)) else (l_szCoreS_l1 n a0 v8005 (IntKind.i64.wrap (p0_1 + 1)))))) else (some p0_0))
def l_szCore : Nat → Core → Int → Option (Int)
  | 0, _, _ => none
  | n + 1, a0, a1 => (Option.bind (l_szInt64S a0.data a1) fun v2003 => (if (decide (v2003 < 0)) = true then (some (-1)) else (Option.bind (l_szCoreS n a0.kids v2003) fun v5003 => (if (decide (v5003 < 0)) = true then (some (-1)) else (some v5003)))))
end
def l_szReport (a0 : Report) (a1 : Int) : Option (Int) :=
  (Option.bind (l_szCore fuel a0.result a1) fun v2003 => (if (decide (v2003 < 0)) = true then (some (-1)) else (Option.bind (l_szInt64S a0.interactions v2003) fun v5003 => (if (decide (v5003 < 0)) = true then (some (-1)) else (Option.bind (l_szInt64S a0.steps v5003) fun v8003 => (if (decide (v8003 < 0)) = true then (some (-1)) else (some v8003)))))))
mutual
def s_l35List_l3 : Nat → (List Int) → ByteArray → Int → Option (ByteArray)
  | 0, _, _, _ => none
  | n + 1, a0, p0_0, p0_1 => (if (decide (p0_1 < ((List.length a0 : Nat) : Int))) = true then (if (decide (0 < p0_1)) = true then (Option.bind (sapp? p0_0 (ByteArray.mk #[32])) fun v7001 => (s_l35List_j4 n a0 p0_1 v7001)) else (s_l35List_j4 n a0 p0_1 p0_0)) else (some p0_0))
def s_l35List_j4 : Nat → (List Int) → Int → ByteArray → Option (ByteArray)
  | 0, _, _, _ => none
  | n + 1, a0, p0_1, p1_0 => (Option.bind (at? a0 p0_1) fun v8003 => (Option.bind (s_Decimal v8003) fun v8005 => (Option.bind (sapp? p1_0 v8005) fun v8006 => (s_l35List_l3 n a0 v8006 (IntKind.i64.wrap (p0_1 + 1))))))
end
def s_l35List (a0 : List Int) : Option (ByteArray) :=
  (s_l35List_l3 fuel a0 (ByteArray.mk #[]) 0)
def s_ReportLines (a0 : Report) : Option ((List ByteArray)) :=
  (Option.bind (s_CoreText a0.result) fun v2002 => (Option.bind (sapp? (ByteArray.mk #[114, 101, 115, 117, 108, 116, 32]) v2002) fun v2003 => (Option.bind (s_l35List a0.interactions) fun v2006 => (Option.bind (sapp? (ByteArray.mk #[105, 110, 116, 101, 114, 97, 99, 116, 105, 111, 110, 115, 32]) v2006) fun v2007 => (Option.bind (s_l35List a0.steps) fun v2010 => (Option.bind (sapp? (ByteArray.mk #[115, 116, 101, 112, 115, 32]) v2010) fun v2011 => (Option.bind (s_Decimal a0.peak) fun v2014 => (Option.bind (sapp? (ByteArray.mk #[112, 101, 97, 107, 32]) v2014) fun v2015 => (Option.bind (s_Decimal a0.rounds) fun v2018 => (Option.bind (sapp? (ByteArray.mk #[114, 111, 117, 110, 100, 115, 32]) v2018) fun v2019 => (Option.bind (s_Decimal a0.entered) fun v2022 => (Option.bind (sapp? (ByteArray.mk #[101, 110, 116, 101, 114, 101, 100, 32]) v2022) fun v2023 => (some [v2003, v2007, v2011, v2015, v2019, v2023])))))))))))))
mutual
def l_toCoreS : Nat → (List Core) → Option ((List Core))
  | 0, _ => none
  | n + 1, a0 => (Option.bind (rep? ((List.length a0 : Nat) : Int) (⟨0, 0, [], []⟩ : Core)) fun v2002 => (l_toCoreS_l2 n a0 v2002 0))
def l_toCoreS_l2 : Nat → (List Core) → (List Core) → Int → Option ((List Core))
  | 0, _, _, _ => none
  | n + 1, a0, p1_0, p1_1 => (if (decide (p1_1 < ((List.length a0 : Nat) : Int))) = true then (Option.bind (at? a0 p1_1) fun v6004 => (Option.bind (l_toCore n v6004) fun v6006 => (Option.bind (at? p1_0 p1_1) fun v6007 => (Option.bind (set1? p1_0 p1_1 v6006) fun v6008_12 => (l_toCoreS_l2 n a0 v6008_12 (IntKind.i64.wrap (p1_1 + 1))))))) else (some p1_0))
def l_toCore : Nat → Core → Option (Core)
  | 0, _ => none
  | n + 1, a0 => (Option.bind (l_toInt64S a0.data) fun v5002 => (Option.bind (l_toCoreS n a0.kids) fun v6002 => (some (⟨a0.kind, a0.value, v5002, v6002⟩ : Core))))
end
def l_toReport (a0 : Report) : Option (Report) :=
  (Option.bind (l_toCore fuel a0.result) fun v3002 => (Option.bind (l_toInt64S a0.interactions) fun v4002 => (Option.bind (l_toInt64S a0.steps) fun v5002 => (some (⟨v3002, v4002, v5002, a0.peak, a0.rounds, a0.entered⟩ : Report)))))
def i_ReportLines (a0 : Report) : Option ((List ByteArray)) :=
  (Option.bind (i_CoreText a0.result) fun v2002 => (Option.bind (sapp? (ByteArray.mk #[114, 101, 115, 117, 108, 116, 32]) v2002) fun v2003 => (Option.bind (i_decimals a0.interactions) fun v2006 => (Option.bind (sapp? (ByteArray.mk #[105, 110, 116, 101, 114, 97, 99, 116, 105, 111, 110, 115, 32]) v2006) fun v2007 => (Option.bind (i_decimals a0.steps) fun v2010 => (Option.bind (sapp? (ByteArray.mk #[115, 116, 101, 112, 115, 32]) v2010) fun v2011 => (Option.bind (i_Decimal a0.peak) fun v2014 => (Option.bind (sapp? (ByteArray.mk #[112, 101, 97, 107, 32]) v2014) fun v2015 => (Option.bind (i_Decimal a0.rounds) fun v2018 => (Option.bind (sapp? (ByteArray.mk #[114, 111, 117, 110, 100, 115, 32]) v2018) fun v2019 => (Option.bind (i_Decimal a0.entered) fun v2022 => (Option.bind (sapp? (ByteArray.mk #[101, 110, 116, 101, 114, 101, 100, 32]) v2022) fun v2023 => (some [v2003, v2007, v2011, v2015, v2019, v2023])))))))))))))
def l_eqStringS_l1 : Nat → (List ByteArray) → (List ByteArray) → Int → Option (Bool)
  | 0, _, _, _ => none
  | n + 1, a0, a1, p0_0 => (if (decide (p0_0 < ((List.length a0 : Nat) : Int))) = true then (Option.bind (at? a0 p0_0) fun v7002 => (Option.bind (at? a1 p0_0) fun v7006 => (if (!sameStr v7002 v7006) = true then (some false) else (l_eqStringS_l1 n a0 a1 (IntKind.i64.wrap (p0_0 + 1)))))) else (some true))
def l_eqStringS (a0 : List ByteArray) (a1 : List ByteArray) : Option (Bool) :=
  (if (!decide (((List.length a0 : Nat) : Int) = ((List.length a1 : Nat) : Int))) = true then (some false) else (l_eqStringS_l1 fuel a0 a1 0))
mutual
def l_eqCoreS : Nat → (List Core) → (List Core) → Option (Bool)
  | 0, _, _ => none
  | n + 1, a0, a1 => (if (!decide (((List.length a0 : Nat) : Int) = ((List.length a1 : Nat) : Int))) = true then (some false) else (l_eqCoreS_l1 n a0 a1 0))
def l_eqCoreS_l1 : Nat → (List Core) → (List Core) → Int → Option (Bool)
  | 0, _, _, _ => none
  | n + 1, a0, a1, p0_0 => (if (decide (p0_0 < ((List.length a0 : Nat) : Int))) = true then (Option.bind (at? a0 p0_0) fun v7002 => (Option.bind (at? a1 p0_0) fun v7006 => (Option.bind (l_eqCore n v7002 v7006) fun v7008 => (if (!v7008) = true then (some false) else (l_eqCoreS_l1 n a0 a1 (IntKind.i64.wrap (p0_0 + 1))))))) else (some true))
def l_eqCore : Nat → Core → Core → Option (Bool)
  | 0, _, _ => none
  | n + 1, a0, a1 => (if (!decide (a0.kind = a1.kind)) = true then (some false) else (if (!decide (a0.value = a1.value)) = true then (some false) else (Option.bind (l_eqInt64S a0.data a1.data) fun v6004 => (if (!v6004) = true then (some false) else (Option.bind (l_eqCoreS n a0.kids a1.kids) fun v8004 => (if (!v8004) = true then (some false) else (some true)))))))
end
def l_eqReport (a0 : Report) (a1 : Report) : Option (Bool) :=
  (Option.bind (l_eqCore fuel a0.result a1.result) fun v2004 => (if (!v2004) = true then (some false) else (Option.bind (l_eqInt64S a0.interactions a1.interactions) fun v4004 => (if (!v4004) = true then (some false) else (Option.bind (l_eqInt64S a0.steps a1.steps) fun v6004 => (if (!v6004) = true then (some false) else (if (!decide (a0.peak = a1.peak)) = true then (some false) else (if (!decide (a0.rounds = a1.rounds)) = true then (some false) else (if (!decide (a0.entered = a1.entered)) = true then (some false) else (some true))))))))))
def l_markInt64S_l1 : Nat → (List Int) → Int → Int → Option (Int × (List Int))
  | 0, _, _, _ => none
  | n + 1, p0_0, p0_1, p0_2 => (if (decide (p0_2 < ((List.length p0_0 : Nat) : Int))) = true then (Option.bind (at? p0_0 p0_2) fun v5003 => (Option.bind (set1? p0_0 p0_2 p0_1) fun v5004_8 => (l_markInt64S_l1 n v5004_8 (IntKind.i64.wrap (p0_1 + 1)) (IntKind.i64.wrap (p0_2 + 1))))) else (some (p0_1, p0_0)))
def l_markInt64S (a0 : List Int) (a1 : Int) : Option (Int × (List Int)) :=
  (l_markInt64S_l1 fuel a0 a1 0)
mutual
def l_markCoreS : Nat → (List Core) → Int → Option (Int × (List Core))
  | 0, _, _ => none
  | n + 1, a0, a1 => (l_markCoreS_l1 n a0 a1 0)
def l_markCoreS_l1 : Nat → (List Core) → Int → Int → Option (Int × (List Core))
  | 0, _, _, _ => none
  | n + 1, p0_0, p0_1, p0_2 => (if (decide (p0_2 < ((List.length p0_0 : Nat) : Int))) = true then (Option.bind (at? p0_0 p0_2) fun v5003 => (Option.bind (set1? p0_0 p0_2 (⟨p0_1, v5003.value, v5003.data, v5003.kids⟩ : Core)) fun v5005_29 => (Option.bind (at? v5005_29 p0_2) fun v7003 => (Option.bind (set1? v5005_29 p0_2 (⟨v7003.kind, (IntKind.i64.wrap (p0_1 + 1)), v7003.data, v7003.kids⟩ : Core)) fun v7005_30 => (Option.bind (at? v7005_30 p0_2) fun v9002 => (Option.bind (l_markInt64S v9002.data (IntKind.i64.wrap ((IntKind.i64.wrap (p0_1 + 1)) + 1))) fun v9006 => (Option.bind (set1? v7005_30 p0_2 (⟨v9002.kind, v9002.value, v9006.2, v9002.kids⟩ : Core)) fun v9006_31 => (Option.bind (at? v9006_31 p0_2) fun v10002 => (Option.bind (l_markCoreS n v10002.kids v9006.1) fun v10006 => (Option.bind (set1? v9006_31 p0_2 (⟨v10002.kind, v10002.value, v10002.data, v10006.2⟩ : Core)) fun v10006_32 => (l_markCoreS_l1 n v10006_32 v10006.1 (IntKind.i64.wrap (p0_2 + 1))))))))))))) else (some (p0_1, p0_0)))
end
def l_markCore (a0 : Core) (a1 : Int) : Option (Int × (List Int) × (List Core)) :=
  (Option.bind (l_markInt64S a0.data a1) fun v2003 => (Option.bind (l_markCoreS fuel a0.kids v2003.1) fun v3003 => (some (v3003.1, v2003.2, v3003.2))))
def l_markReport (a0 : Report) (a1 : Int) : Option (Int × (List Int) × (List Core) × (List Int) × (List Int)) :=
  (Option.bind (l_markCore a0.result a1) fun v2003 => (Option.bind (l_markInt64S a0.interactions v2003.1) fun v3003 => (Option.bind (l_markInt64S a0.steps v3003.1) fun v4003 => (some (v4003.1, v2003.2.1, v2003.2.2, v3003.2, v4003.2)))))
def l_markText_l1 : Nat → Int → ByteArray → Option (ByteArray)
  | 0, _, _ => none
  | n + 1, p0_0, p0_1 => (if (decide (0 < p0_0)) = true then (Option.bind (strN? [(IntKind.u8.wrap (IntKind.i64.wrap (48 + (Int.tmod p0_0 10))))]) fun v6005 => (Option.bind (sapp? v6005 p0_1) fun v6007 => (l_markText_l1 n (IntKind.i64.wrap (Int.tdiv p0_0 10)) v6007))) else (Option.bind (sapp? (ByteArray.mk #[109]) p0_1) fun v8001 => (some v8001)))
def l_markText (a0 : Int) : Option (ByteArray) :=
  (if (decide (a0 ≤ 0)) = true then (some (ByteArray.mk #[109, 48])) else (l_markText_l1 fuel a0 (ByteArray.mk #[])))
def l_markStringS_l1 : Nat → (List ByteArray) → Int → Int → Option (Int × (List ByteArray))
  | 0, _, _, _ => none
  | n + 1, p0_0, p0_1, p0_2 => (if (decide (p0_2 < ((List.length p0_0 : Nat) : Int))) = true then (Option.bind (l_markText p0_1) fun v5003 => (Option.bind (at? p0_0 p0_2) fun v5004 => (Option.bind (set1? p0_0 p0_2 v5003) fun v5005_8 => (l_markStringS_l1 n v5005_8 (IntKind.i64.wrap (p0_1 + 1)) (IntKind.i64.wrap (p0_2 + 1)))))) else (some (p0_1, p0_0)))
def l_markStringS (a0 : List ByteArray) (a1 : Int) : Option (Int × (List ByteArray)) :=
  (l_markStringS_l1 fuel a0 a1 0)
def l_heldStringS_l1 : Nat → (List ByteArray) → Int → Int → Option (Int)
  | 0, _, _, _ => none
  | n + 1, a0, p0_0, p0_1 => (if (decide (p0_1 < ((List.length a0 : Nat) : Int))) = true then (Option.bind (at? a0 p0_1) fun v5002 => (Option.bind (l_markText p0_0) fun v5005 => (if (!sameStr v5002 v5005) = true then (some (-1)) else (l_heldStringS_l1 n a0 (IntKind.i64.wrap (p0_0 + 1)) (IntKind.i64.wrap (p0_1 + 1)))))) else (some p0_0))
def l_heldStringS (a0 : List ByteArray) (a1 : Int) : Option (Int) :=
  (l_heldStringS_l1 fuel a0 a1 0)
def l_FnExactReportLines_j1 (a0 : Report) (v6002 : (List ByteArray)) (v8001 : (List ByteArray)) (p0_0 : Bool) : Option (Bool) :=
  (if p0_0 = true then (some false) else (Option.bind (l_markStringS v8001 1) fun v18002 => (Option.bind (l_heldStringS v18002.2 1) fun v20002 => (if (decide (v20002 < 0)) = true then (some false) else (if (!decide (v20002 = v18002.1)) = true then (some false) else (Option.bind (l_toReport a0) fun v25001 => (Option.bind (i_ReportLines v25001) fun v25002 => (Option.bind (l_eqStringS v25002 v6002) fun v26002 => (if (!v26002) = true then (some false) else (Option.bind (l_heldStringS v18002.2 1) fun v29002 => (if (decide (v29002 < 0)) = true then (some false) else (if (!decide (v29002 = v18002.1)) = true then (some false) else (some true)))))))))))))
def l_FnExactReportLines (a0 : Report) : Option (Bool) :=
  (Option.bind (l_szReport a0 1048576) fun v3002 => (if (decide (v3002 < 0)) = true then (some true) else (Option.bind (l_toReport a0) fun v6001 => (Option.bind (s_ReportLines v6001) fun v6002 => (Option.bind (l_toReport a0) fun v7001 => (Option.bind (i_ReportLines v7001) fun v8001 => (Option.bind (l_eqStringS v8001 v6002) fun v9002 => (if (!v9002) = true then (some false) else (Option.bind (l_toReport a0) fun v11002 => (Option.bind (l_eqReport v7001 v11002) fun v11003 => (if (!v11003) = true then (some false) else (Option.bind (l_markReport v7001 1) fun v14002 => (if (decide (v14002.1 < 0)) = true then (l_FnExactReportLines_j1 a0 v6002 v8001 true) else (Option.bind (l_eqStringS v8001 v6002) fun v15005 => (l_FnExactReportLines_j1 a0 v6002 v8001 (!v15005))))))))))))))))
end Go.Proofs.YtlmanchbpommaaaDoor.Ab
