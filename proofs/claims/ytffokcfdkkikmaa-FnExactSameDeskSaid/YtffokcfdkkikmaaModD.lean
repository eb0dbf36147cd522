/-
  Models of the functions. Printed by wip/ab/gen.py.
-/
import Derived.Test.YtffokcfdkkikmaaMTyD
import Derived.Test.YtffokcfdkkikmaaModZ
namespace Go.Proofs.Ytffokcfdkkikmaa.Ab
set_option linter.unusedVariables false
set_option linter.unusedSimpArgs false
set_option maxRecDepth 20000
set_option maxHeartbeats 4000000
open Go.RowKit

mutual
def l_szType : Nat → TType → Int → Option (Int)
  | 0, _, _ => none
  | n + 1, a0, a1 => (if (decide ((IntKind.i64.wrap (a1 - ((ByteArray.size a0.name : Nat) : Int))) < 0)) = true then (some (-1)) else (Option.bind (l_szTypeS n a0.kids (IntKind.i64.wrap (a1 - ((ByteArray.size a0.name : Nat) : Int)))) fun v5003 => (if (decide (v5003 < 0)) = true then (some (-1)) else (some v5003))))
def l_szTypeS : Nat → (List TType) → Int → Option (Int)
  | 0, _, _ => none
  | n + 1, a0, a1 => (if (decide ((IntKind.i64.wrap (a1 - ((List.length a0 : Nat) : Int))) < 0)) = true then (some (-1)) else (l_szTypeS_l1 n a0 (IntKind.i64.wrap (a1 - ((List.length a0 : Nat) : Int))) 0))
def l_szTypeS_l1 : Nat → (List TType) → Int → Int → Option (Int)
  | 0, _, _, _ => none
  | n + 1, a0, p0_0, p0_1 => (if (decide (p0_1 < ((List.length a0 : Nat) : Int))) = true then (Option.bind (at? a0 p0_1) fun v8002 => (Option.bind (l_szType n v8002 p0_0) fun v8005 => (if (decide (v8005 < 0)) = true then (some (-1)) else (l_szTypeS_l1 n a0 v8005 (IntKind.i64.wrap (p0_1 + 1)))))) else (some p0_0))
end
def l_szConstructor (a0 : Constructor) (a1 : Int) : Option (Int) :=
  (if (decide ((IntKind.i64.wrap (a1 - ((ByteArray.size a0.name : Nat) : Int))) < 0)) = true then (some (-1)) else (Option.bind (l_szTypeS fuel a0.fields (IntKind.i64.wrap (a1 - ((ByteArray.size a0.name : Nat) : Int)))) fun v5003 => (if (decide (v5003 < 0)) = true then (some (-1)) else (some v5003))))
def l_szConstructorS_l1 : Nat → (List Constructor) → Int → Int → Option (Int)
  | 0, _, _, _ => none
  | n + 1, a0, p0_0, p0_1 => (if (decide (p0_1 < ((List.length a0 : Nat) : Int))) = true then (Option.bind (at? a0 p0_1) fun v8002 => (Option.bind (l_szConstructor v8002 p0_0) fun v8005 => (if (decide (v8005 < 0)) = true then (some (-1)) else (l_szConstructorS_l1 n a0 v8005 (IntKind.i64.wrap (p0_1 + 1)))))) else (some p0_0))
def l_szConstructorS (a0 : List Constructor) (a1 : Int) : Option (Int) :=
  (if (decide ((IntKind.i64.wrap (a1 - ((List.length a0 : Nat) : Int))) < 0)) = true then (some (-1)) else (l_szConstructorS_l1 fuel a0 (IntKind.i64.wrap (a1 - ((List.length a0 : Nat) : Int))) 0))
def l_szData (a0 : Data) (a1 : Int) : Option (Int) :=
  (if (decide ((IntKind.i64.wrap (a1 - ((ByteArray.size a0.name : Nat) : Int))) < 0)) = true then (some (-1)) else (Option.bind (l_szConstructorS a0.cons (IntKind.i64.wrap (a1 - ((ByteArray.size a0.name : Nat) : Int)))) fun v5003 => (if (decide (v5003 < 0)) = true then (some (-1)) else (some v5003))))
def l_szDataS_l1 : Nat → (List Data) → Int → Int → Option (Int)
  | 0, _, _, _ => none
  | n + 1, a0, p0_0, p0_1 => (if (decide (p0_1 < ((List.length a0 : Nat) : Int))) = true then (Option.bind (at? a0 p0_1) fun v8002 => (Option.bind (l_szData v8002 p0_0) fun v8005 => (if (decide (v8005 < 0)) = true then (some (-1)) else (l_szDataS_l1 n a0 v8005 (IntKind.i64.wrap (p0_1 + 1)))))) else (some p0_0))
def l_szDataS (a0 : List Data) (a1 : Int) : Option (Int) :=
  (if (decide ((IntKind.i64.wrap (a1 - ((List.length a0 : Nat) : Int))) < 0)) = true then (some (-1)) else (l_szDataS_l1 fuel a0 (IntKind.i64.wrap (a1 - ((List.length a0 : Nat) : Int))) 0))
mutual
def l_szTermS : Nat → (List Term) → Int → Option (Int)
  | 0, _, _ => none
  | n + 1, a0, a1 => (if (decide ((IntKind.i64.wrap (a1 - ((List.length a0 : Nat) : Int))) < 0)) = true then (some (-1)) else (l_szTermS_l1 n a0 (IntKind.i64.wrap (a1 - ((List.length a0 : Nat) : Int))) 0))
def l_szTermS_l1 : Nat → (List Term) → Int → Int → Option (Int)
  | 0, _, _, _ => none
  | n + 1, a0, p0_0, p0_1 => (if (decide (p0_1 < ((List.length a0 : Nat) : Int))) = true then (Option.bind (at? a0 p0_1) fun v8002 => (Option.bind (l_szTerm n v8002 p0_0) fun v8005 => (if (decide (v8005 < 0)) = true then (some (-1)) else (l_szTermS_l1 n a0 v8005 (IntKind.i64.wrap (p0_1 + 1)))))) else (some p0_0))
def l_szTerm : Nat → Term → Int → Option (Int)
  | 0, _, _ => none
  | n + 1, a0, a1 => (if (decide ((IntKind.i64.wrap (a1 - ((ByteArray.size a0.name : Nat) : Int))) < 0)) = true then (some (-1)) else (Option.bind (l_szType fuel a0.typ (IntKind.i64.wrap (a1 - ((ByteArray.size a0.name : Nat) : Int)))) fun v5003 => (if (decide (v5003 < 0)) = true then (some (-1)) else (Option.bind (l_szStringS a0.names v5003) fun v8003 => (if (decide (v8003 < 0)) = true then (some (-1)) else (Option.bind (l_szTermS n a0.kids v8003) fun v11003 => (if (decide (v11003 < 0)) = true then (some (-1)) else (some v11003))))))))
end
def l_szDef (a0 : Def) (a1 : Int) : Option (Int) :=
  (if (decide ((IntKind.i64.wrap (a1 - ((ByteArray.size a0.name : Nat) : Int))) < 0)) = true then (some (-1)) else (Option.bind (l_szType fuel a0.typ (IntKind.i64.wrap (a1 - ((ByteArray.size a0.name : Nat) : Int)))) fun v5003 => (if (decide (v5003 < 0)) = true then (some (-1)) else (Option.bind (l_szTerm fuel a0.body v5003) fun v8003 => (if (decide (v8003 < 0)) = true then (some (-1)) else (some v8003))))))
def l_szDefS_l1 : Nat → (List Def) → Int → Int → Option (Int)
  | 0, _, _, _ => none
  | n + 1, a0, p0_0, p0_1 => (if (decide (p0_1 < ((List.length a0 : Nat) : Int))) = true then (Option.bind (at? a0 p0_1) fun v8002 => (Option.bind (l_szDef v8002 p0_0) fun v8005 => (if (decide (v8005 < 0)) = true then (some (-1)) else (l_szDefS_l1 n a0 v8005 (IntKind.i64.wrap (p0_1 + 1)))))) else (some p0_0))
def l_szDefS (a0 : List Def) (a1 : Int) : Option (Int) :=
  (if (decide ((IntKind.i64.wrap (a1 - ((List.length a0 : Nat) : Int))) < 0)) = true then (some (-1)) else (l_szDefS_l1 fuel a0 (IntKind.i64.wrap (a1 - ((List.length a0 : Nat) : Int))) 0))
def l_szProgram (a0 : TProgram) (a1 : Int) : Option (Int) :=
  (Option.bind (l_szDataS a0.datas a1) fun v2003 => (if (decide (v2003 < 0)) = true then (some (-1)) else (Option.bind (l_szDefS a0.defs v2003) fun v5003 => (if (decide (v5003 < 0)) = true then (some (-1)) else (some v5003)))))
def l_szDesk (a0 : Desk) (a1 : Int) : Option (Int) :=
  (Option.bind (l_szProgram a0.program a1) fun v2003 => (if (decide (v2003 < 0)) = true then (some (-1)) else (Option.bind (l_szInt64S a0.schedule v2003) fun v5003 => (if (decide (v5003 < 0)) = true then (some (-1)) else (some v5003)))))
mutual
def s_SameType : Nat → TType → TType → Option (Bool)
  | 0, _, _ => none
  | n + 1, a0, a1 => (if (!decide (a0.kind = a1.kind)) = true then (s_SameType_j1 n a0 a1 true) else (if (!sameStr a0.name a1.name) = true then (s_SameType_j1 n a0 a1 true) else (s_SameType_j1 n a0 a1 (!decide (((List.length a0.kids : Nat) : Int) = ((List.length a1.kids : Nat) : Int))))))
def s_SameType_j1 : Nat → TType → TType → Bool → Option (Bool)
  | 0, _, _, _ => none
  | n + 1, a0, a1, p0_0 => (if p0_0 = true then (some false) else (s_SameType_l3 n a0 a1 0))
def s_SameType_l3 : Nat → TType → TType → Int → Option (Bool)
  | 0, _, _, _ => none
  | n + 1, a0, a1, p2_0 => (if (decide (p2_0 < ((List.length a0.kids : Nat) : Int))) = true then (Option.bind (at? a0.kids p2_0) fun v7003 => (Option.bind (at? a1.kids p2_0) fun v7008 => (Option.bind (s_SameType n v7003 v7008) fun v7010 => (if (!v7010) = true then (some false) else (s_SameType_l3 n a0 a1 (IntKind.i64.wrap (p2_0 + 1))))))) else (some true))
end
def s_l03SameTypes_l1 : Nat → (List TType) → (List TType) → Int → Option (Bool)
  | 0, _, _, _ => none
  | n + 1, a0, a1, p0_0 => (if (decide (p0_0 < ((List.length a0 : Nat) : Int))) = true then (Option.bind (at? a0 p0_0) fun v7002 => (Option.bind (at? a1 p0_0) fun v7006 => (Option.bind (s_SameType fuel v7002 v7006) fun v7008 => (if (!v7008) = true then (some false) else (s_l03SameTypes_l1 n a0 a1 (IntKind.i64.wrap (p0_0 + 1))))))) else (some true))
def s_l03SameTypes (a0 : List TType) (a1 : List TType) : Option (Bool) :=
  (if (!decide (((List.length a0 : Nat) : Int) = ((List.length a1 : Nat) : Int))) = true then (some false) else (s_l03SameTypes_l1 fuel a0 a1 0))
mutual
def s_l03SameData_l8 : Nat → Data → Data → Int → Option (Bool)
  | 0, _, _, _ => none
  | n + 1, a0, a1, p3_0 => (if (decide (p3_0 < ((List.length a0.cons : Nat) : Int))) = true then (Option.bind (at? a0.cons p3_0) fun v7003 => (Option.bind (at? a1.cons p3_0) fun v7009 => (if (!sameStr v7003.name v7009.name) = true then (s_l03SameData_j9 n a0 a1 p3_0 true) else (Option.bind (at? a0.cons p3_0) fun v7017 => (Option.bind (at? a1.cons p3_0) fun v7023 => (Option.bind (s_l03SameTypes v7017.fields v7023.fields) fun v7026 => (s_l03SameData_j9 n a0 a1 p3_0 (!v7026)))))))) else (some true))
def s_l03SameData_j9 : Nat → Data → Data → Int → Bool → Option (Bool)
  | 0, _, _, _, _ => none
  | n + 1, a0, a1, p3_0, p4_0 => (if p4_0 = true then (some false) else (s_l03SameData_l8 n a0 a1 (IntKind.i64.wrap (p3_0 + 1))))
end
def s_l03SameData_j1 (a0 : Data) (a1 : Data) (p0_0 : Bool) : Option (Bool) :=
  (if p0_0 = true then (some false) else (s_l03SameData_l8 fuel a0 a1 0))
def s_l03SameData (a0 : Data) (a1 : Data) : Option (Bool) :=
  (if (!sameStr a0.name a1.name) = true then (s_l03SameData_j1 a0 a1 true) else (s_l03SameData_j1 a0 a1 (!decide (((List.length a0.cons : Nat) : Int) = ((List.length a1.cons : Nat) : Int)))))
def s_l03SameNames_l1 : Nat → (List ByteArray) → (List ByteArray) → Int → Option (Bool)
  | 0, _, _, _ => none
  | n + 1, a0, a1, p0_0 => (if (decide (p0_0 < ((List.length a0 : Nat) : Int))) = true then (Option.bind (at? a0 p0_0) fun v7002 => (Option.bind (at? a1 p0_0) fun v7006 => (if (!sameStr v7002 v7006) = true then (some false) else (s_l03SameNames_l1 n a0 a1 (IntKind.i64.wrap (p0_0 + 1)))))) else (some true))
def s_l03SameNames (a0 : List ByteArray) (a1 : List ByteArray) : Option (Bool) :=
  (if (!decide (((List.length a0 : Nat) : Int) = ((List.length a1 : Nat) : Int))) = true then (some false) else (s_l03SameNames_l1 fuel a0 a1 0))
mutual
def s_SameTerm : Nat → Term → Term → Option (Bool)
  | 0, _, _ => none
  | n + 1, a0, a1 => (if (!decide (a0.kind = a1.kind)) = true then (s_SameTerm_j1 n a0 a1 true) else (if (!decide (a0.num = a1.num)) = true then (s_SameTerm_j1 n a0 a1 true) else (if (!sameStr a0.name a1.name) = true then (s_SameTerm_j1 n a0 a1 true) else (Option.bind (s_SameType fuel a0.typ a1.typ) fun v2024 => (if (!v2024) = true then (s_SameTerm_j1 n a0 a1 true) else (Option.bind (s_l03SameNames a0.names a1.names) fun v2032 => (if (!v2032) = true then (s_SameTerm_j1 n a0 a1 true) else (s_SameTerm_j1 n a0 a1 (!decide (((List.length a0.kids : Nat) : Int) = ((List.length a1.kids : Nat) : Int)))))))))))
def s_SameTerm_j1 : Nat → Term → Term → Bool → Option (Bool)
  | 0, _, _, _ => none
  | n + 1, a0, a1, p0_0 => (if p0_0 = true then (some false) else (s_SameTerm_l3 n a0 a1 0))
def s_SameTerm_l3 : Nat → Term → Term → Int → Option (Bool)
  | 0, _, _, _ => none
  | n + 1, a0, a1, p2_0 => (if (decide (p2_0 < ((List.length a0.kids : Nat) : Int))) = true then (Option.bind (at? a0.kids p2_0) fun v7003 => (Option.bind (at? a1.kids p2_0) fun v7008 => (Option.bind (s_SameTerm n v7003 v7008) fun v7010 => (if (!v7010) = true then (some false) else (s_SameTerm_l3 n a0 a1 (IntKind.i64.wrap (p2_0 + 1))))))) else (some true))
end
mutual
def s_SameProgram_l10 : Nat → TProgram → TProgram → Int → Option (Bool)
  | 0, _, _, _ => none
  | n + 1, a0, a1, p5_0 => (if (decide (p5_0 < ((List.length a0.defs : Nat) : Int))) = true then (Option.bind (at? a0.defs p5_0) fun v12003 => (Option.bind (at? a1.defs p5_0) fun v12009 => (if (!sameStr v12003.name v12009.name) = true then (s_SameProgram_j11 n a0 a1 p5_0 true) else (Option.bind (at? a0.defs p5_0) fun v12017 => (Option.bind (at? a1.defs p5_0) fun v12023 => (Option.bind (s_SameType fuel v12017.typ v12023.typ) fun v12026 => (if (!v12026) = true then (s_SameProgram_j11 n a0 a1 p5_0 true) else (Option.bind (at? a0.defs p5_0) fun v12033 => (Option.bind (at? a1.defs p5_0) fun v12039 => (Option.bind (s_SameTerm fuel v12033.body v12039.body) fun v12042 => (s_SameProgram_j11 n a0 a1 p5_0 (!v12042)))))))))))) else (some true))
def s_SameProgram_j11 : Nat → TProgram → TProgram → Int → Bool → Option (Bool)
  | 0, _, _, _, _ => none
  | n + 1, a0, a1, p5_0, p6_0 => (if p6_0 = true then (some false) else (s_SameProgram_l10 n a0 a1 (IntKind.i64.wrap (p5_0 + 1))))
end
def s_SameProgram_l3 : Nat → TProgram → TProgram → Int → Option (Bool)
  | 0, _, _, _ => none
  | n + 1, a0, a1, p2_0 => (if (decide (p2_0 < ((List.length a0.datas : Nat) : Int))) = true then (Option.bind (at? a0.datas p2_0) fun v7003 => (Option.bind (at? a1.datas p2_0) fun v7008 => (Option.bind (s_l03SameData v7003 v7008) fun v7010 => (if (!v7010) = true then (some false) else (s_SameProgram_l3 n a0 a1 (IntKind.i64.wrap (p2_0 + 1))))))) else (s_SameProgram_l10 fuel a0 a1 0))
def s_SameProgram_j1 (a0 : TProgram) (a1 : TProgram) (p0_0 : Bool) : Option (Bool) :=
  (if p0_0 = true then (some false) else (s_SameProgram_l3 fuel a0 a1 0))
def s_SameProgram (a0 : TProgram) (a1 : TProgram) : Option (Bool) :=
  (if (!decide (((List.length a0.datas : Nat) : Int) = ((List.length a1.datas : Nat) : Int))) = true then (s_SameProgram_j1 a0 a1 true) else (s_SameProgram_j1 a0 a1 (!decide (((List.length a0.defs : Nat) : Int) = ((List.length a1.defs : Nat) : Int)))))
def s_l00Same_l1 : Nat → (List Int) → (List Int) → Int → Option (Bool)
  | 0, _, _, _ => none
  | n + 1, a0, a1, p0_0 => (if (decide (p0_0 < ((List.length a0 : Nat) : Int))) = true then (Option.bind (at? a0 p0_0) fun v7002 => (Option.bind (at? a1 p0_0) fun v7006 => (if (!decide (v7002 = v7006)) = true then (some false) else (s_l00Same_l1 n a0 a1 (IntKind.i64.wrap (p0_0 + 1)))))) else (some true))
def s_l00Same (a0 : List Int) (a1 : List Int) : Option (Bool) :=
  (if (!decide (((List.length a0 : Nat) : Int) = ((List.length a1 : Nat) : Int))) = true then (some false) else (s_l00Same_l1 fuel a0 a1 0))
def s_SameDesk (a0 : Desk) (a1 : Desk) : Option (Bool) :=
  (if (a0.loaded == a1.loaded) = true then (Option.bind (s_SameProgram a0.program a1.program) fun v2010 => (if v2010 = true then (Option.bind (s_l00Same a0.schedule a1.schedule) fun v2017 => (if v2017 = true then (some (decide (a0.machines = a1.machines))) else (some false))) else (some false))) else (some false))
mutual
def l_toType : Nat → TType → Option (TType)
  | 0, _ => none
  | n + 1, a0 => (Option.bind (l_toTypeS n a0.kids) fun v5002 => (some (⟨a0.kind, a0.name, v5002⟩ : TType)))
def l_toTypeS : Nat → (List TType) → Option ((List TType))
  | 0, _ => none
  | n + 1, a0 => (Option.bind (rep? ((List.length a0 : Nat) : Int) (⟨0, ByteArray.empty, []⟩ : TType)) fun v2002 => (l_toTypeS_l2 n a0 v2002 0))
def l_toTypeS_l2 : Nat → (List TType) → (List TType) → Int → Option ((List TType))
  | 0, _, _, _ => none
  | n + 1, a0, p1_0, p1_1 => (if (decide (p1_1 < ((List.length a0 : Nat) : Int))) = true then (Option.bind (at? a0 p1_1) fun v6004 => (Option.bind (l_toType n v6004) fun v6006 => (Option.bind (at? p1_0 p1_1) fun v6007 => (Option.bind (set1? p1_0 p1_1 v6006) fun v6008_12 => (l_toTypeS_l2 n a0 v6008_12 (IntKind.i64.wrap (p1_1 + 1))))))) else (some p1_0))
end
def l_toConstructor (a0 : Constructor) : Option (Constructor) :=
  (Option.bind (l_toTypeS fuel a0.fields) fun v4002 => (some (⟨a0.name, v4002⟩ : Constructor)))
def l_toConstructorS_l2 : Nat → (List Constructor) → (List Constructor) → Int → Option ((List Constructor))
  | 0, _, _, _ => none
  | n + 1, a0, p1_0, p1_1 => (if (decide (p1_1 < ((List.length a0 : Nat) : Int))) = true then (Option.bind (at? a0 p1_1) fun v6004 => (Option.bind (l_toConstructor v6004) fun v6006 => (Option.bind (at? p1_0 p1_1) fun v6007 => (Option.bind (set1? p1_0 p1_1 v6006) fun v6008_12 => (l_toConstructorS_l2 n a0 v6008_12 (IntKind.i64.wrap (p1_1 + 1))))))) else (some p1_0))
def l_toConstructorS (a0 : List Constructor) : Option ((List Constructor)) :=
  (Option.bind (rep? ((List.length a0 : Nat) : Int) (⟨ByteArray.empty, []⟩ : Constructor)) fun v2002 => (l_toConstructorS_l2 fuel a0 v2002 0))
def l_toData (a0 : Data) : Option (Data) :=
  (Option.bind (l_toConstructorS a0.cons) fun v4002 => (some (⟨a0.name, v4002⟩ : Data)))
def l_toDataS_l2 : Nat → (List Data) → (List Data) → Int → Option ((List Data))
  | 0, _, _, _ => none
  | n + 1, a0, p1_0, p1_1 => (if (decide (p1_1 < ((List.length a0 : Nat) : Int))) = true then (Option.bind (at? a0 p1_1) fun v6004 => (Option.bind (l_toData v6004) fun v6006 => (Option.bind (at? p1_0 p1_1) fun v6007 => (Option.bind (set1? p1_0 p1_1 v6006) fun v6008_12 => (l_toDataS_l2 n a0 v6008_12 (IntKind.i64.wrap (p1_1 + 1))))))) else (some p1_0))
def l_toDataS (a0 : List Data) : Option ((List Data)) :=
  (Option.bind (rep? ((List.length a0 : Nat) : Int) (⟨ByteArray.empty, []⟩ : Data)) fun v2002 => (l_toDataS_l2 fuel a0 v2002 0))
mutual
def l_toTermS : Nat → (List Term) → Option ((List Term))
  | 0, _ => none
  | n + 1, a0 => (Option.bind (rep? ((List.length a0 : Nat) : Int) (⟨0, 0, ByteArray.empty, (⟨0, ByteArray.empty, []⟩ : TType), [], []⟩ : Term)) fun v2002 => (l_toTermS_l2 n a0 v2002 0))
def l_toTermS_l2 : Nat → (List Term) → (List Term) → Int → Option ((List Term))
  | 0, _, _, _ => none
  | n + 1, a0, p1_0, p1_1 => (if (decide (p1_1 < ((List.length a0 : Nat) : Int))) = true then (Option.bind (at? a0 p1_1) fun v6004 => (Option.bind (l_toTerm n v6004) fun v6006 => (Option.bind (at? p1_0 p1_1) fun v6007 => (Option.bind (set1? p1_0 p1_1 v6006) fun v6008_12 => (l_toTermS_l2 n a0 v6008_12 (IntKind.i64.wrap (p1_1 + 1))))))) else (some p1_0))
def l_toTerm : Nat → Term → Option (Term)
  | 0, _ => none
  | n + 1, a0 => (Option.bind (l_toType fuel a0.typ) fun v6002 => (Option.bind (l_toStringS a0.names) fun v7002 => (Option.bind (l_toTermS n a0.kids) fun v8002 => (some (⟨a0.kind, a0.num, a0.name, v6002, v7002, v8002⟩ : Term)))))
end
def l_toDef (a0 : Def) : Option (Def) :=
  (Option.bind (l_toType fuel a0.typ) fun v4002 => (Option.bind (l_toTerm fuel a0.body) fun v5002 => (some (⟨a0.name, v4002, v5002⟩ : Def))))
def l_toDefS_l2 : Nat → (List Def) → (List Def) → Int → Option ((List Def))
  | 0, _, _, _ => none
  | n + 1, a0, p1_0, p1_1 => (if (decide (p1_1 < ((List.length a0 : Nat) : Int))) = true then (Option.bind (at? a0 p1_1) fun v6004 => (Option.bind (l_toDef v6004) fun v6006 => (Option.bind (at? p1_0 p1_1) fun v6007 => (Option.bind (set1? p1_0 p1_1 v6006) fun v6008_12 => (l_toDefS_l2 n a0 v6008_12 (IntKind.i64.wrap (p1_1 + 1))))))) else (some p1_0))
def l_toDefS (a0 : List Def) : Option ((List Def)) :=
  (Option.bind (rep? ((List.length a0 : Nat) : Int) (⟨ByteArray.empty, (⟨0, ByteArray.empty, []⟩ : TType), (⟨0, 0, ByteArray.empty, (⟨0, ByteArray.empty, []⟩ : TType), [], []⟩ : Term)⟩ : Def)) fun v2002 => (l_toDefS_l2 fuel a0 v2002 0))
def l_toProgram (a0 : TProgram) : Option (TProgram) :=
  (Option.bind (l_toDataS a0.datas) fun v3002 => (Option.bind (l_toDefS a0.defs) fun v4002 => (some (⟨v3002, v4002⟩ : TProgram))))
def l_toDesk (a0 : Desk) : Option (Desk) :=
  (Option.bind (l_toProgram a0.program) fun v4002 => (Option.bind (l_toInt64S a0.schedule) fun v5002 => (some (⟨a0.loaded, v4002, v5002, a0.machines⟩ : Desk))))
def g_EqualFunc_simpl_Data_l1 : Nat → (List Data) → (List Data) → Int → (Data → Data → Option Bool) → Option (Bool)
  | 0, _, _, _, _ => none
  | n + 1, a0, a1, p0_0, f2 => (if (decide (p0_0 < ((List.length a0 : Nat) : Int))) = true then (Option.bind (at? a0 p0_0) fun v6001 => (Option.bind (at? a1 p0_0) fun v7002 => (Option.bind (f2 v6001 v7002) fun v8003 => (if (!v8003) = true then (some false) else (g_EqualFunc_simpl_Data_l1 n a0 a1 (IntKind.i64.wrap (p0_0 + 1)) f2))))) else (some true))
def g_EqualFunc_simpl_Data (a0 : List Data) (a1 : List Data) (f2 : (Data → Data → Option Bool)) : Option (Bool) :=
  (if (!decide (((List.length a0 : Nat) : Int) = ((List.length a1 : Nat) : Int))) = true then (some false) else (g_EqualFunc_simpl_Data_l1 fuel a0 a1 0 f2))
def g_EqualFunc_simpl_Constructor_l1 : Nat → (List Constructor) → (List Constructor) → Int → (Constructor → Constructor → Option Bool) → Option (Bool)
  | 0, _, _, _, _ => none
  | n + 1, a0, a1, p0_0, f2 => (if (decide (p0_0 < ((List.length a0 : Nat) : Int))) = true then (Option.bind (at? a0 p0_0) fun v6001 => (Option.bind (at? a1 p0_0) fun v7002 => (Option.bind (f2 v6001 v7002) fun v8003 => (if (!v8003) = true then (some false) else (g_EqualFunc_simpl_Constructor_l1 n a0 a1 (IntKind.i64.wrap (p0_0 + 1)) f2))))) else (some true))
def g_EqualFunc_simpl_Constructor (a0 : List Constructor) (a1 : List Constructor) (f2 : (Constructor → Constructor → Option Bool)) : Option (Bool) :=
  (if (!decide (((List.length a0 : Nat) : Int) = ((List.length a1 : Nat) : Int))) = true then (some false) else (g_EqualFunc_simpl_Constructor_l1 fuel a0 a1 0 f2))
def g_EqualFunc_simpl_Type_l1 : Nat → (List TType) → (List TType) → Int → (TType → TType → Option Bool) → Option (Bool)
  | 0, _, _, _, _ => none
  | n + 1, a0, a1, p0_0, f2 => (if (decide (p0_0 < ((List.length a0 : Nat) : Int))) = true then (Option.bind (at? a0 p0_0) fun v6001 => (Option.bind (at? a1 p0_0) fun v7002 => (Option.bind (f2 v6001 v7002) fun v8003 => (if (!v8003) = true then (some false) else (g_EqualFunc_simpl_Type_l1 n a0 a1 (IntKind.i64.wrap (p0_0 + 1)) f2))))) else (some true))
def g_EqualFunc_simpl_Type (a0 : List TType) (a1 : List TType) (f2 : (TType → TType → Option Bool)) : Option (Bool) :=
  (if (!decide (((List.length a0 : Nat) : Int) = ((List.length a1 : Nat) : Int))) = true then (some false) else (g_EqualFunc_simpl_Type_l1 fuel a0 a1 0 f2))
def i_SameType : Nat → TType → TType → Option (Bool)
  | 0, _, _ => none
  | n + 1, a0, a1 => (if (decide (a0.kind = a1.kind)) = true then (if (sameStr a0.name a1.name) = true then (Option.bind (g_EqualFunc_simpl_Type a0.kids a1.kids (fun y0 y1 => i_SameType n y0 y1)) fun v2017 => (some v2017)) else (some false)) else (some false))
def i_sameData_1 (a0 : Constructor) (a1 : Constructor) : Option (Bool) :=
  (if (sameStr a0.name a1.name) = true then (Option.bind (g_EqualFunc_simpl_Type a0.fields a1.fields (fun y0 y1 => i_SameType fuel y0 y1)) fun v2010 => (some v2010)) else (some false))
def i_sameData (a0 : Data) (a1 : Data) : Option (Bool) :=
  (if (sameStr a0.name a1.name) = true then (Option.bind (g_EqualFunc_simpl_Constructor a0.cons a1.cons (fun y0 y1 => i_sameData_1 y0 y1)) fun v2010 => (some v2010)) else (some false))
def g_EqualFunc_simpl_Def_l1 : Nat → (List Def) → (List Def) → Int → (Def → Def → Option Bool) → Option (Bool)
  | 0, _, _, _, _ => none
  | n + 1, a0, a1, p0_0, f2 => (if (decide (p0_0 < ((List.length a0 : Nat) : Int))) = true then (Option.bind (at? a0 p0_0) fun v6001 => (Option.bind (at? a1 p0_0) fun v7002 => (Option.bind (f2 v6001 v7002) fun v8003 => (if (!v8003) = true then (some false) else (g_EqualFunc_simpl_Def_l1 n a0 a1 (IntKind.i64.wrap (p0_0 + 1)) f2))))) else (some true))
def g_EqualFunc_simpl_Def (a0 : List Def) (a1 : List Def) (f2 : (Def → Def → Option Bool)) : Option (Bool) :=
  (if (!decide (((List.length a0 : Nat) : Int) = ((List.length a1 : Nat) : Int))) = true then (some false) else (g_EqualFunc_simpl_Def_l1 fuel a0 a1 0 f2))
def g_Equal_sstring_l1 : Nat → (List ByteArray) → (List ByteArray) → Int → Option (Bool)
  | 0, _, _, _ => none
  | n + 1, a0, a1, p0_0 => (if (decide (p0_0 < ((List.length a0 : Nat) : Int))) = true then (Option.bind (at? a0 p0_0) fun v7002 => (Option.bind (at? a1 p0_0) fun v7006 => (if (!sameStr v7002 v7006) = true then (some false) else (g_Equal_sstring_l1 n a0 a1 (IntKind.i64.wrap (p0_0 + 1)))))) else (some true))
def g_Equal_sstring (a0 : List ByteArray) (a1 : List ByteArray) : Option (Bool) :=
  (if (!decide (((List.length a0 : Nat) : Int) = ((List.length a1 : Nat) : Int))) = true then (some false) else (g_Equal_sstring_l1 fuel a0 a1 0))
def g_EqualFunc_simpl_Term_l1 : Nat → (List Term) → (List Term) → Int → (Term → Term → Option Bool) → Option (Bool)
  | 0, _, _, _, _ => none
  | n + 1, a0, a1, p0_0, f2 => (if (decide (p0_0 < ((List.length a0 : Nat) : Int))) = true then (Option.bind (at? a0 p0_0) fun v6001 => (Option.bind (at? a1 p0_0) fun v7002 => (Option.bind (f2 v6001 v7002) fun v8003 => (if (!v8003) = true then (some false) else (g_EqualFunc_simpl_Term_l1 n a0 a1 (IntKind.i64.wrap (p0_0 + 1)) f2))))) else (some true))
def g_EqualFunc_simpl_Term (a0 : List Term) (a1 : List Term) (f2 : (Term → Term → Option Bool)) : Option (Bool) :=
  (if (!decide (((List.length a0 : Nat) : Int) = ((List.length a1 : Nat) : Int))) = true then (some false) else (g_EqualFunc_simpl_Term_l1 fuel a0 a1 0 f2))
def i_SameTerm : Nat → Term → Term → Option (Bool)
  | 0, _, _ => none
  | n + 1, a0, a1 => (if (decide (a0.kind = a1.kind)) = true then (if (decide (a0.num = a1.num)) = true then (if (sameStr a0.name a1.name) = true then (Option.bind (i_SameType fuel a0.typ a1.typ) fun v2024 => (if v2024 = true then (Option.bind (g_Equal_sstring a0.names a1.names) fun v2031 => (if v2031 = true then (Option.bind (g_EqualFunc_simpl_Term a0.kids a1.kids (fun y0 y1 => i_SameTerm n y0 y1)) fun v2038 => (some v2038)) else (some false))) else (some false))) else (some false)) else (some false)) else (some false))
def i_SameProgram_1 (a0 : Def) (a1 : Def) : Option (Bool) :=
  (if (sameStr a0.name a1.name) = true then (Option.bind (i_SameType fuel a0.typ a1.typ) fun v2010 => (if v2010 = true then (Option.bind (i_SameTerm fuel a0.body a1.body) fun v2017 => (some v2017)) else (some false))) else (some false))
def i_SameProgram (a0 : TProgram) (a1 : TProgram) : Option (Bool) :=
  (Option.bind (g_EqualFunc_simpl_Data a0.datas a1.datas (fun y0 y1 => i_sameData y0 y1)) fun v2004 => (if v2004 = true then (Option.bind (g_EqualFunc_simpl_Def a0.defs a1.defs (fun y0 y1 => i_SameProgram_1 y0 y1)) fun v2010 => (some v2010)) else (some false)))
def g_Equal_sint64_l1 : Nat → (List Int) → (List Int) → Int → Option (Bool)
  | 0, _, _, _ => none
  | n + 1, a0, a1, p0_0 => (if (decide (p0_0 < ((List.length a0 : Nat) : Int))) = true then (Option.bind (at? a0 p0_0) fun v7002 => (Option.bind (at? a1 p0_0) fun v7006 => (if (!decide (v7002 = v7006)) = true then (some false) else (g_Equal_sint64_l1 n a0 a1 (IntKind.i64.wrap (p0_0 + 1)))))) else (some true))
def g_Equal_sint64 (a0 : List Int) (a1 : List Int) : Option (Bool) :=
  (if (!decide (((List.length a0 : Nat) : Int) = ((List.length a1 : Nat) : Int))) = true then (some false) else (g_Equal_sint64_l1 fuel a0 a1 0))
def i_SameDesk (a0 : Desk) (a1 : Desk) : Option (Bool) :=
  (if (a0.loaded == a1.loaded) = true then (Option.bind (i_SameProgram a0.program a1.program) fun v2010 => (if v2010 = true then (Option.bind (g_Equal_sint64 a0.schedule a1.schedule) fun v2017 => (if v2017 = true then (some (decide (a0.machines = a1.machines))) else (some false))) else (some false))) else (some false))
mutual
def l_eqType : Nat → TType → TType → Option (Bool)
  | 0, _, _ => none
  | n + 1, a0, a1 => (if (!decide (a0.kind = a1.kind)) = true then (some false) else (if (!sameStr a0.name a1.name) = true then (some false) else (Option.bind (l_eqTypeS n a0.kids a1.kids) fun v6004 => (if (!v6004) = true then (some false) else (some true)))))
def l_eqTypeS : Nat → (List TType) → (List TType) → Option (Bool)
  | 0, _, _ => none
  | n + 1, a0, a1 => (if (!decide (((List.length a0 : Nat) : Int) = ((List.length a1 : Nat) : Int))) = true then (some false) else (l_eqTypeS_l1 n a0 a1 0))
def l_eqTypeS_l1 : Nat → (List TType) → (List TType) → Int → Option (Bool)
  | 0, _, _, _ => none
  | n + 1, a0, a1, p0_0 => (if (decide (p0_0 < ((List.length a0 : Nat) : Int))) = true then (Option.bind (at? a0 p0_0) fun v7002 => (Option.bind (at? a1 p0_0) fun v7006 => (Option.bind (l_eqType n v7002 v7006) fun v7008 => (if (!v7008) = true then (some false) else (l_eqTypeS_l1 n a0 a1 (IntKind.i64.wrap (p0_0 + 1))))))) else (some true))
end
def l_eqConstructor (a0 : Constructor) (a1 : Constructor) : Option (Bool) :=
  (if (!sameStr a0.name a1.name) = true then (some false) else (Option.bind (l_eqTypeS fuel a0.fields a1.fields) fun v4004 => (if (!v4004) = true then (some false) else (some true))))
def l_eqConstructorS_l1 : Nat → (List Constructor) → (List Constructor) → Int → Option (Bool)
  | 0, _, _, _ => none
  | n + 1, a0, a1, p0_0 => (if (decide (p0_0 < ((List.length a0 : Nat) : Int))) = true then (Option.bind (at? a0 p0_0) fun v7002 => (Option.bind (at? a1 p0_0) fun v7006 => (Option.bind (l_eqConstructor v7002 v7006) fun v7008 => (if (!v7008) = true then (some false) else (l_eqConstructorS_l1 n a0 a1 (IntKind.i64.wrap (p0_0 + 1))))))) else (some true))
def l_eqConstructorS (a0 : List Constructor) (a1 : List Constructor) : Option (Bool) :=
  (if (!decide (((List.length a0 : Nat) : Int) = ((List.length a1 : Nat) : Int))) = true then (some false) else (l_eqConstructorS_l1 fuel a0 a1 0))
def l_eqData (a0 : Data) (a1 : Data) : Option (Bool) :=
  (if (!sameStr a0.name a1.name) = true then (some false) else (Option.bind (l_eqConstructorS a0.cons a1.cons) fun v4004 => (if (!v4004) = true then (some false) else (some true))))
def l_eqDataS_l1 : Nat → (List Data) → (List Data) → Int → Option (Bool)
  | 0, _, _, _ => none
  | n + 1, a0, a1, p0_0 => (if (decide (p0_0 < ((List.length a0 : Nat) : Int))) = true then (Option.bind (at? a0 p0_0) fun v7002 => (Option.bind (at? a1 p0_0) fun v7006 => (Option.bind (l_eqData v7002 v7006) fun v7008 => (if (!v7008) = true then (some false) else (l_eqDataS_l1 n a0 a1 (IntKind.i64.wrap (p0_0 + 1))))))) else (some true))
def l_eqDataS (a0 : List Data) (a1 : List Data) : Option (Bool) :=
  (if (!decide (((List.length a0 : Nat) : Int) = ((List.length a1 : Nat) : Int))) = true then (some false) else (l_eqDataS_l1 fuel a0 a1 0))
mutual
def l_eqTermS : Nat → (List Term) → (List Term) → Option (Bool)
  | 0, _, _ => none
  | n + 1, a0, a1 => (if (!decide (((List.length a0 : Nat) : Int) = ((List.length a1 : Nat) : Int))) = true then (some false) else (l_eqTermS_l1 n a0 a1 0))
def l_eqTermS_l1 : Nat → (List Term) → (List Term) → Int → Option (Bool)
  | 0, _, _, _ => none
  | n + 1, a0, a1, p0_0 => (if (decide (p0_0 < ((List.length a0 : Nat) : Int))) = true then (Option.bind (at? a0 p0_0) fun v7002 => (Option.bind (at? a1 p0_0) fun v7006 => (Option.bind (l_eqTerm n v7002 v7006) fun v7008 => (if (!v7008) = true then (some false) else (l_eqTermS_l1 n a0 a1 (IntKind.i64.wrap (p0_0 + 1))))))) else (some true))
def l_eqTerm : Nat → Term → Term → Option (Bool)
  | 0, _, _ => none
  | n + 1, a0, a1 => (if (!decide (a0.kind = a1.kind)) = true then (some false) else (if (!decide (a0.num = a1.num)) = true then (some false) else (if (!sameStr a0.name a1.name) = true then (some false) else (Option.bind (l_eqType fuel a0.typ a1.typ) fun v8004 => (if (!v8004) = true then (some false) else (Option.bind (l_eqStringS a0.names a1.names) fun v10004 => (if (!v10004) = true then (some false) else (Option.bind (l_eqTermS n a0.kids a1.kids) fun v12004 => (if (!v12004) = true then (some false) else (some true))))))))))
end
def l_eqDef (a0 : Def) (a1 : Def) : Option (Bool) :=
  (if (!sameStr a0.name a1.name) = true then (some false) else (Option.bind (l_eqType fuel a0.typ a1.typ) fun v4004 => (if (!v4004) = true then (some false) else (Option.bind (l_eqTerm fuel a0.body a1.body) fun v6004 => (if (!v6004) = true then (some false) else (some true))))))
def l_eqDefS_l1 : Nat → (List Def) → (List Def) → Int → Option (Bool)
  | 0, _, _, _ => none
  | n + 1, a0, a1, p0_0 => (if (decide (p0_0 < ((List.length a0 : Nat) : Int))) = true then (Option.bind (at? a0 p0_0) fun v7002 => (Option.bind (at? a1 p0_0) fun v7006 => (Option.bind (l_eqDef v7002 v7006) fun v7008 => (if (!v7008) = true then (some false) else (l_eqDefS_l1 n a0 a1 (IntKind.i64.wrap (p0_0 + 1))))))) else (some true))
def l_eqDefS (a0 : List Def) (a1 : List Def) : Option (Bool) :=
  (if (!decide (((List.length a0 : Nat) : Int) = ((List.length a1 : Nat) : Int))) = true then (some false) else (l_eqDefS_l1 fuel a0 a1 0))
def l_eqProgram (a0 : TProgram) (a1 : TProgram) : Option (Bool) :=
  (Option.bind (l_eqDataS a0.datas a1.datas) fun v2004 => (if (!v2004) = true then (some false) else (Option.bind (l_eqDefS a0.defs a1.defs) fun v4004 => (if (!v4004) = true then (some false) else (some true)))))
def l_eqDesk (a0 : Desk) (a1 : Desk) : Option (Bool) :=
  (if (!(a0.loaded == a1.loaded)) = true then (some false) else (Option.bind (l_eqProgram a0.program a1.program) fun v4004 => (if (!v4004) = true then (some false) else (Option.bind (l_eqInt64S a0.schedule a1.schedule) fun v6004 => (if (!v6004) = true then (some false) else (if (!decide (a0.machines = a1.machines)) = true then (some false) else (some true)))))))
def l_FnExactSameDesk (a0 : Desk) (a1 : Desk) : Option (Bool) :=
  (Option.bind (l_szDesk a0 1048576) fun v3002 => (if (decide (v3002 < 0)) = true then (some true) else (Option.bind (l_szDesk a1 v3002) fun v6002 => (if (decide (v6002 < 0)) = true then (some true) else (Option.bind (l_toDesk a0) fun v9001 => (Option.bind (l_toDesk a1) fun v9003 => (Option.bind (s_SameDesk v9001 v9003) fun v9004 => (Option.bind (l_toDesk a0) fun v10001 => (Option.bind (l_toDesk a1) fun v11001 => (Option.bind (i_SameDesk v10001 v11001) fun v12002 => (if (!(v12002 == v9004)) = true then (some false) else (Option.bind (l_toDesk a0) fun v15002 => (Option.bind (l_eqDesk v10001 v15002) fun v15003 => (if (!v15003) = true then (some false) else (Option.bind (l_toDesk a1) fun v17002 => (Option.bind (l_eqDesk v11001 v17002) fun v17003 => (if (!v17003) = true then (some false) else (some true))))))))))))))))))
end Go.Proofs.Ytffokcfdkkikmaa.Ab
