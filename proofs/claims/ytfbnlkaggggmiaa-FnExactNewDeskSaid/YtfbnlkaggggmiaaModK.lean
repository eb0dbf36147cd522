/-
  Models of the functions. Printed by wip/ab/gen.py.
-/
import Derived.Test.YtfbnlkaggggmiaaMTyK
import Derived.Test.YtfbnlkaggggmiaaMod
namespace Go.Proofs.Ytfbnlkaggggmiaa.Ab
set_option linter.unusedVariables false
set_option linter.unusedSimpArgs false
set_option maxRecDepth 20000
set_option maxHeartbeats 4000000
open Go.RowKit

def s_NewDesk  : Option (Desk) :=
  (some (⟨false, (⟨[], []⟩ : TProgram), [], 2⟩ : Desk))
def i_NewDesk  : Option (Desk) :=
  (some (⟨false, (⟨[], []⟩ : TProgram), [], 2⟩ : Desk))
mutual
def l_eqType : Nat → TType → TType → Option (Bool)
  | 0, _, _ => none
  | n + 1, a0, a1 => (if (!decide (a0.kind = a1.kind)) = true then (some false) else (if (!sameStr a0.name a1.name) = true then (some false) else (Option.bind (l_eqTypeS n a0.kids a1.kids) fun v6004 => (if (!v6004) = true then (some false) else (some true)))))
def l_eqTypeS : Nat → (List TType) → (List TType) → Option (Bool)
  | 0, _, _ => none
  | n + 1, a0, a1 => (if (!decide (((List.length a0 : Nat) : Int) = ((List.length a1 : Nat) : Int))) = true then (some false) else (l_eqTypeS_l1 n a0 a1 0))
def l_eqTypeS_l1 : Nat → (List TType) → (List TType) → Int → Option (Bool)
  | 0, _, _, _ => none
  | n + 1, a0, a1, p0_0 => (if (decide (p0_0 < ((List.length a0 : Nat) : Int))) = true then (Option.bind (at? a0 p0_0) fun v7002 => (Option.bind (at? a1 p0_0) fun v7006 => (Option.bind (l_eqType n v7002 v7006) fun v7008 => (if (!v7008) = true then (some false) else (l_eqTypeS_l1 n a0 a1 (IntKind.i64.wrap (p0_0 + 1))))))) else (some true))
end
def l_eqConstructor (a0 : Constructor) (a1 : Constructor) : Option (Bool) :=
  (if (!sameStr a0.name a1.name) = true then (some false) else (Option.bind (l_eqTypeS fuel a0.fields a1.fields) fun v4004 => (if (!v4004) = true then (some false) else (some true))))
def l_eqConstructorS_l1 : Nat → (List Constructor) → (List Constructor) → Int → Option (Bool)
  | 0, _, _, _ => none
  | n + 1, a0, a1, p0_0 => (if (decide (p0_0 < ((List.length a0 : Nat) : Int))) = true then (Option.bind (at? a0 p0_0) fun v7002 => (Option.bind (at? a1 p0_0) fun v7006 => (Option.bind (l_eqConstructor v7002 v7006) fun v7008 => (if (!v7008) = true then (some false) else (l_eqConstructorS_l1 n a0 a1 (IntKind.i64.wrap (p0_0 + 1))))))) else (some true))
def l_eqConstructorS (a0 : List Constructor) (a1 : List Constructor) : Option (Bool) :=
  (if (!decide (((List.length a0 : Nat) : Int) = ((List.length a1 : Nat) : Int))) = true then (some false) else (l_eqConstructorS_l1 fuel a0 a1 0))
def l_eqData (a0 : Data) (a1 : Data) : Option (Bool) :=
  (if (!sameStr a0.name a1.name) = true then (some false) else (Option.bind (l_eqConstructorS a0.cons a1.cons) fun v4004 => (if (!v4004) = true then (some false) else (some true))))
def l_eqDataS_l1 : Nat → (List Data) → (List Data) → Int → Option (Bool)
  | 0, _, _, _ => none
  | n + 1, a0, a1, p0_0 => (if (decide (p0_0 < ((List.length a0 : Nat) : Int))) = true then (Option.bind (at? a0 p0_0) fun v7002 => (Option.bind (at? a1 p0_0) fun v7006 => (Option.bind (l_eqData v7002 v7006) fun v7008 => (if (!v7008) = true then (some false) else (l_eqDataS_l1 n a0 a1 (IntKind.i64.wrap (p0_0 + 1))))))) else (some true))
def l_eqDataS (a0 : List Data) (a1 : List Data) : Option (Bool) :=
  (if (!decide (((List.length a0 : Nat) : Int) = ((List.length a1 : Nat) : Int))) = true then (some false) else (l_eqDataS_l1 fuel a0 a1 0))
mutual
def l_eqTermS : Nat → (List Term) → (List Term) → Option (Bool)
  | 0, _, _ => none
  | n + 1, a0, a1 => (if (!decide (((List.length a0 : Nat) : Int) = ((List.length a1 : Nat) : Int))) = true then (some false) else (l_eqTermS_l1 n a0 a1 0))
def l_eqTermS_l1 : Nat → (List Term) → (List Term) → Int → Option (Bool)
  | 0, _, _, _ => none
  | n + 1, a0, a1, p0_0 => (if (decide (p0_0 < ((List.length a0 : Nat) : Int))) = true then (Option.bind (at? a0 p0_0) fun v7002 => (Option.bind (at? a1 p0_0) fun v7006 => (Option.bind (l_eqTerm n v7002 v7006) fun v7008 => (if (!v7008) = true then (some false) else (l_eqTermS_l1 n a0 a1 (IntKind.i64.wrap (p0_0 + 1))))))) else (some true))
def l_eqTerm : Nat → Term → Term → Option (Bool)
  | 0, _, _ => none
  | n + 1, a0, a1 => (if (!decide (a0.kind = a1.kind)) = true then (some false) else (if (!decide (a0.num = a1.num)) = true then (some false) else (if (!sameStr a0.name a1.name) = true then (some false) else (Option.bind (l_eqType fuel a0.typ a1.typ) fun v8004 => (if (!v8004) = true then (some false) else (Option.bind (l_eqStringS a0.names a1.names) fun v10004 => (if (!v10004) = true then (some false) else (Option.bind (l_eqTermS n a0.kids a1.kids) fun v12004 => (if (!v12004) = true then (some false) else (some true))))))))))
end
def l_eqDef (a0 : Def) (a1 : Def) : Option (Bool) :=
  (if (!sameStr a0.name a1.name) = true then (some false) else (Option.bind (l_eqType fuel a0.typ a1.typ) fun v4004 => (if (!v4004) = true then (some false) else (Option.bind (l_eqTerm fuel a0.body a1.body) fun v6004 => (if (!v6004) = true then (some false) else (some true))))))
def l_eqDefS_l1 : Nat → (List Def) → (List Def) → Int → Option (Bool)
  | 0, _, _, _ => none
  | n + 1, a0, a1, p0_0 => (if (decide (p0_0 < ((List.length a0 : Nat) : Int))) = true then (Option.bind (at? a0 p0_0) fun v7002 => (Option.bind (at? a1 p0_0) fun v7006 => (Option.bind (l_eqDef v7002 v7006) fun v7008 => (if (!v7008) = true then (some false) else (l_eqDefS_l1 n a0 a1 (IntKind.i64.wrap (p0_0 + 1))))))) else (some true))
def l_eqDefS (a0 : List Def) (a1 : List Def) : Option (Bool) :=
  (if (!decide (((List.length a0 : Nat) : Int) = ((List.length a1 : Nat) : Int))) = true then (some false) else (l_eqDefS_l1 fuel a0 a1 0))
def l_eqProgram (a0 : TProgram) (a1 : TProgram) : Option (Bool) :=
  (Option.bind (l_eqDataS a0.datas a1.datas) fun v2004 => (if (!v2004) = true then (some false) else (Option.bind (l_eqDefS a0.defs a1.defs) fun v4004 => (if (!v4004) = true then (some false) else (some true)))))
def l_eqDesk (a0 : Desk) (a1 : Desk) : Option (Bool) :=
  (if (!(a0.loaded == a1.loaded)) = true then (some false) else (Option.bind (l_eqProgram a0.program a1.program) fun v4004 => (if (!v4004) = true then (some false) else (Option.bind (l_eqInt64S a0.schedule a1.schedule) fun v6004 => (if (!v6004) = true then (some false) else (if (!decide (a0.machines = a1.machines)) = true then (some false) else (some true)))))))
def l_markInt64S_l1 : Nat → (List Int) → Int → Int → Option (Int × (List Int))
  | 0, _, _, _ => none
  | n + 1, p0_0, p0_1, p0_2 => (if (decide (p0_2 < ((List.length p0_0 : Nat) : Int))) = true then (Option.bind (at? p0_0 p0_2) fun v5003 => (Option.bind (set1? p0_0 p0_2 p0_1) fun v5004_8 => (l_markInt64S_l1 n v5004_8 (IntKind.i64.wrap (p0_1 + 1)) (IntKind.i64.wrap (p0_2 + 1))))) else (some (p0_1, p0_0)))
def l_markInt64S (a0 : List Int) (a1 : Int) : Option (Int × (List Int)) :=
  (l_markInt64S_l1 fuel a0 a1 0)
def l_markText_l1 : Nat → Int → ByteArray → Option (ByteArray)
  | 0, _, _ => none
  | n + 1, p0_0, p0_1 => (if (decide (0 < p0_0)) = true then (Option.bind (strN? [(IntKind.u8.wrap (IntKind.i64.wrap (48 + (Int.tmod p0_0 10))))]) fun v6005 => (Option.bind (sapp? v6005 p0_1) fun v6007 => (l_markText_l1 n (IntKind.i64.wrap (Int.tdiv p0_0 10)) v6007))) else (Option.bind (sapp? (ByteArray.mk #[109]) p0_1) fun v8001 => (some v8001)))
def l_markText (a0 : Int) : Option (ByteArray) :=
  (if (decide (a0 ≤ 0)) = true then (some (ByteArray.mk #[109, 48])) else (l_markText_l1 fuel a0 (ByteArray.mk #[])))
mutual
def l_markTypeS : Nat → (List TType) → Int → Option (Int × (List TType))
  | 0, _, _ => none
  | n + 1, a0, a1 => (l_markTypeS_l1 n a0 a1 0)
def l_markTypeS_l1 : Nat → (List TType) → Int → Int → Option (Int × (List TType))
  | 0, _, _, _ => none
  | n + 1, p0_0, p0_1, p0_2 => (if (decide (p0_2 < ((List.length p0_0 : Nat) : Int))) = true then (Option.bind (at? p0_0 p0_2) fun v5003 => (Option.bind (set1? p0_0 p0_2 (⟨p0_1, v5003.name, v5003.kids⟩ : TType)) fun v5005_22 => (Option.bind (l_markText (IntKind.i64.wrap (p0_1 + 1))) fun v7003 => (Option.bind (at? v5005_22 p0_2) fun v7004 => (Option.bind (set1? v5005_22 p0_2 (⟨v7004.kind, v7003, v7004.kids⟩ : TType)) fun v7006_23 => (Option.bind (at? v7006_23 p0_2) fun v9002 => (Option.bind (l_markTypeS n v9002.kids (IntKind.i64.wrap ((IntKind.i64.wrap (p0_1 + 1)) + 1))) fun v9006 => (Option.bind (set1? v7006_23 p0_2 (⟨v9002.kind, v9002.name, v9006.2⟩ : TType)) fun v9006_24 => (l_markTypeS_l1 n v9006_24 v9006.1 (IntKind.i64.wrap (p0_2 + 1))))))))))) else (some (p0_1, p0_0)))
end
def l_markConstructorS_l1 : Nat → (List Constructor) → Int → Int → Option (Int × (List Constructor))
  | 0, _, _, _ => none
  | n + 1, p0_0, p0_1, p0_2 => (if (decide (p0_2 < ((List.length p0_0 : Nat) : Int))) = true then (Option.bind (l_markText p0_1) fun v5003 => (Option.bind (at? p0_0 p0_2) fun v5004 => (Option.bind (set1? p0_0 p0_2 (⟨v5003, v5004.fields⟩ : Constructor)) fun v5006_15 => (Option.bind (at? v5006_15 p0_2) fun v7002 => (Option.bind (l_markTypeS fuel v7002.fields (IntKind.i64.wrap (p0_1 + 1))) fun v7006 => (Option.bind (set1? v5006_15 p0_2 (⟨v7002.name, v7006.2⟩ : Constructor)) fun v7006_16 => (l_markConstructorS_l1 n v7006_16 v7006.1 (IntKind.i64.wrap (p0_2 + 1))))))))) else (some (p0_1, p0_0)))
def l_markConstructorS (a0 : List Constructor) (a1 : Int) : Option (Int × (List Constructor)) :=
  (l_markConstructorS_l1 fuel a0 a1 0)
def l_markDataS_l1 : Nat → (List Data) → Int → Int → Option (Int × (List Data))
  | 0, _, _, _ => none
  | n + 1, p0_0, p0_1, p0_2 => (if (decide (p0_2 < ((List.length p0_0 : Nat) : Int))) = true then (Option.bind (l_markText p0_1) fun v5003 => (Option.bind (at? p0_0 p0_2) fun v5004 => (Option.bind (set1? p0_0 p0_2 (⟨v5003, v5004.cons⟩ : Data)) fun v5006_15 => (Option.bind (at? v5006_15 p0_2) fun v7002 => (Option.bind (l_markConstructorS v7002.cons (IntKind.i64.wrap (p0_1 + 1))) fun v7006 => (Option.bind (set1? v5006_15 p0_2 (⟨v7002.name, v7006.2⟩ : Data)) fun v7006_16 => (l_markDataS_l1 n v7006_16 v7006.1 (IntKind.i64.wrap (p0_2 + 1))))))))) else (some (p0_1, p0_0)))
def l_markDataS (a0 : List Data) (a1 : Int) : Option (Int × (List Data)) :=
  (l_markDataS_l1 fuel a0 a1 0)
def l_markStringS_l1 : Nat → (List ByteArray) → Int → Int → Option (Int × (List ByteArray))
  | 0, _, _, _ => none
  | n + 1, p0_0, p0_1, p0_2 => (if (decide (p0_2 < ((List.length p0_0 : Nat) : Int))) = true then (Option.bind (l_markText p0_1) fun v5003 => (Option.bind (at? p0_0 p0_2) fun v5004 => (Option.bind (set1? p0_0 p0_2 v5003) fun v5005_8 => (l_markStringS_l1 n v5005_8 (IntKind.i64.wrap (p0_1 + 1)) (IntKind.i64.wrap (p0_2 + 1)))))) else (some (p0_1, p0_0)))
def l_markStringS (a0 : List ByteArray) (a1 : Int) : Option (Int × (List ByteArray)) :=
  (l_markStringS_l1 fuel a0 a1 0)
mutual
def l_markTermS : Nat → (List Term) → Int → Option (Int × (List Term))
  | 0, _, _ => none
  | n + 1, a0, a1 => (l_markTermS_l1 n a0 a1 0)
def l_markTermS_l1 : Nat → (List Term) → Int → Int → Option (Int × (List Term))
  | 0, _, _, _ => none
  | n + 1, p0_0, p0_1, p0_2 => (if (decide (p0_2 < ((List.length p0_0 : Nat) : Int))) = true then (Option.bind (at? p0_0 p0_2) fun v5003 => (Option.bind (set1? p0_0 p0_2 (⟨p0_1, v5003.num, v5003.name, v5003.typ, v5003.names, v5003.kids⟩ : Term)) fun v5005_57 => (Option.bind (at? v5005_57 p0_2) fun v7003 => (Option.bind (set1? v5005_57 p0_2 (⟨v7003.kind, (IntKind.i64.wrap (p0_1 + 1)), v7003.name, v7003.typ, v7003.names, v7003.kids⟩ : Term)) fun v7005_58 => (Option.bind (l_markText (IntKind.i64.wrap ((IntKind.i64.wrap (p0_1 + 1)) + 1))) fun v9003 => (Option.bind (at? v7005_58 p0_2) fun v9004 => (Option.bind (set1? v7005_58 p0_2 (⟨v9004.kind, v9004.num, v9003, v9004.typ, v9004.names, v9004.kids⟩ : Term)) fun v9006_59 => (Option.bind (at? v9006_59 p0_2) fun v11003 => (Option.bind (set1? v9006_59 p0_2 (⟨v11003.kind, v11003.num, v11003.name, (⟨(IntKind.i64.wrap ((IntKind.i64.wrap ((IntKind.i64.wrap (p0_1 + 1)) + 1)) + 1)), v11003.typ.name, v11003.typ.kids⟩ : TType), v11003.names, v11003.kids⟩ : Term)) fun v11006_60 => (Option.bind (l_markText (IntKind.i64.wrap ((IntKind.i64.wrap ((IntKind.i64.wrap ((IntKind.i64.wrap (p0_1 + 1)) + 1)) + 1)) + 1))) fun v13003 => (Option.bind (at? v11006_60 p0_2) fun v13004 => (Option.bind (set1? v11006_60 p0_2 (⟨v13004.kind, v13004.num, v13004.name, (⟨v13004.typ.kind, v13003, v13004.typ.kids⟩ : TType), v13004.names, v13004.kids⟩ : Term)) fun v13007_61 => (Option.bind (at? v13007_61 p0_2) fun v15002 => (Option.bind (l_markTypeS fuel v15002.typ.kids (IntKind.i64.wrap ((IntKind.i64.wrap ((IntKind.i64.wrap ((IntKind.i64.wrap ((IntKind.i64.wrap (p0_1 + 1)) + 1)) + 1)) + 1)) + 1))) fun v15007 => (Option.bind (set1? v13007_61 p0_2 (⟨v15002.kind, v15002.num, v15002.name, (⟨v15002.typ.kind, v15002.typ.name, v15007.2⟩ : TType), v15002.names, v15002.kids⟩ : Term)) fun v15007_62 => (Option.bind (at? v15007_62 p0_2) fun v16002 => (Option.bind (l_markStringS v16002.names v15007.1) fun v16006 => (Option.bind (set1? v15007_62 p0_2 (⟨v16002.kind, v16002.num, v16002.name, v16002.typ, v16006.2, v16002.kids⟩ : Term)) fun v16006_63 => (Option.bind (at? v16006_63 p0_2) fun v17002 => (Option.bind (l_markTermS n v17002.kids v16006.1) fun v17006 => (Option.bind (set1? v16006_63 p0_2 (⟨v17002.kind, v17002.num, v17002.name, v17002.typ, v17002.names, v17006.2⟩ : Term)) fun v17006_64 => (l_markTermS_l1 n v17006_64 v17006.1 (IntKind.i64.wrap (p0_2 + 1)))))))))))))))))))))))) else (some (p0_1, p0_0)))
end
def l_markDefS_l1 : Nat → (List Def) → Int → Int → Option (Int × (List Def))
  | 0, _, _, _ => none
  | n + 1, p0_0, p0_1, p0_2 => (if (decide (p0_2 < ((List.length p0_0 : Nat) : Int))) = true then (Option.bind (l_markText p0_1) fun v5003 => (Option.bind (at? p0_0 p0_2) fun v5004 => (Option.bind (set1? p0_0 p0_2 (⟨v5003, v5004.typ, v5004.body⟩ : Def)) fun v5006_85 => (Option.bind (at? v5006_85 p0_2) fun v7003 => (Option.bind (set1? v5006_85 p0_2 (⟨v7003.name, (⟨(IntKind.i64.wrap (p0_1 + 1)), v7003.typ.name, v7003.typ.kids⟩ : TType), v7003.body⟩ : Def)) fun v7006_86 => (Option.bind (l_markText (IntKind.i64.wrap ((IntKind.i64.wrap (p0_1 + 1)) + 1))) fun v9003 => (Option.bind (at? v7006_86 p0_2) fun v9004 => (Option.bind (set1? v7006_86 p0_2 (⟨v9004.name, (⟨v9004.typ.kind, v9003, v9004.typ.kids⟩ : TType), v9004.body⟩ : Def)) fun v9007_87 => (Option.bind (at? v9007_87 p0_2) fun v11002 => (Option.bind (l_markTypeS fuel v11002.typ.kids (IntKind.i64.wrap ((IntKind.i64.wrap ((IntKind.i64.wrap (p0_1 + 1)) + 1)) + 1))) fun v11007 => (Option.bind (set1? v9007_87 p0_2 (⟨v11002.name, (⟨v11002.typ.kind, v11002.typ.name, v11007.2⟩ : TType), v11002.body⟩ : Def)) fun v11007_88 => (Option.bind (at? v11007_88 p0_2) fun v12003 => (Option.bind (set1? v11007_88 p0_2 (⟨v12003.name, v12003.typ, (⟨v11007.1, v12003.body.num, v12003.body.name, v12003.body.typ, v12003.body.names, v12003.body.kids⟩ : Term)⟩ : Def)) fun v12006_89 => (Option.bind (at? v12006_89 p0_2) fun v14003 => (Option.bind (set1? v12006_89 p0_2 (⟨v14003.name, v14003.typ, (⟨v14003.body.kind, (IntKind.i64.wrap (v11007.1 + 1)), v14003.body.name, v14003.body.typ, v14003.body.names, v14003.body.kids⟩ : Term)⟩ : Def)) fun v14006_90 => (Option.bind (l_markText (IntKind.i64.wrap ((IntKind.i64.wrap (v11007.1 + 1)) + 1))) fun v16003 => (Option.bind (at? v14006_90 p0_2) fun v16004 => (Option.bind (set1? v14006_90 p0_2 (⟨v16004.name, v16004.typ, (⟨v16004.body.kind, v16004.body.num, v16003, v16004.body.typ, v16004.body.names, v16004.body.kids⟩ : Term)⟩ : Def)) fun v16007_91 => (Option.bind (at? v16007_91 p0_2) fun v18003 => (Option.bind (set1? v16007_91 p0_2 (⟨v18003.name, v18003.typ, (⟨v18003.body.kind, v18003.body.num, v18003.body.name, (⟨(IntKind.i64.wrap ((IntKind.i64.wrap ((IntKind.i64.wrap (v11007.1 + 1)) + 1)) + 1)), v18003.body.typ.name, v18003.body.typ.kids⟩ : TType), v18003.body.names, v18003.body.kids⟩ : Term)⟩ : Def)) fun v18007_92 => (Option.bind (l_markText (IntKind.i64.wrap ((IntKind.i64.wrap ((IntKind.i64.wrap ((IntKind.i64.wrap (v11007.1 + 1)) + 1)) + 1)) + 1))) fun v20003 => (Option.bind (at? v18007_92 p0_2) fun v20004 => (Option.bind (set1? v18007_92 p0_2 (⟨v20004.name, v20004.typ, (⟨v20004.body.kind, v20004.body.num, v20004.body.name, (⟨v20004.body.typ.kind, v20003, v20004.body.typ.kids⟩ : TType), v20004.body.names, v20004.body.kids⟩ : Term)⟩ : Def)) fun v20008_93 => (Option.bind (at? v20008_93 p0_2) fun v22002 => (Option.bind (l_markTypeS fuel v22002.body.typ.kids (IntKind.i64.wrap ((IntKind.i64.wrap ((IntKind.i64.wrap ((IntKind.i64.wrap ((IntKind.i64.wrap (v11007.1 + 1)) + 1)) + 1)) + 1)) + 1))) fun v22008 => (Option.bind (set1? v20008_93 p0_2 (⟨v22002.name, v22002.typ, (⟨v22002.body.kind, v22002.body.num, v22002.body.name, (⟨v22002.body.typ.kind, v22002.body.typ.name, v22008.2⟩ : TType), v22002.body.names, v22002.body.kids⟩ : Term)⟩ : Def)) fun v22008_94 => (Option.bind (at? v22008_94 p0_2) fun v23002 => (Option.bind (l_markStringS v23002.body.names v22008.1) fun v23007 => (Option.bind (set1? v22008_94 p0_2 (⟨v23002.name, v23002.typ, (⟨v23002.body.kind, v23002.body.num, v23002.body.name, v23002.body.typ, v23007.2, v23002.body.kids⟩ : Term)⟩ : Def)) fun v23007_95 => (Option.bind (at? v23007_95 p0_2) fun v24002 => (Option.bind (l_markTermS fuel v24002.body.kids v23007.1) fun v24007 => (Option.bind (set1? v23007_95 p0_2 (⟨v24002.name, v24002.typ, (⟨v24002.body.kind, v24002.body.num, v24002.body.name, v24002.body.typ, v24002.body.names, v24007.2⟩ : Term)⟩ : Def)) fun v24007_96 => (l_markDefS_l1 n v24007_96 v24007.1 (IntKind.i64.wrap (p0_2 + 1))))))))))))))))))))))))))))))))))) else (some (p0_1, p0_0)))
def l_markDefS (a0 : List Def) (a1 : Int) : Option (Int × (List Def)) :=
  (l_markDefS_l1 fuel a0 a1 0)
def l_markProgram (a0 : TProgram) (a1 : Int) : Option (Int × (List Data) × (List Def)) :=
  (Option.bind (l_markDataS a0.datas a1) fun v2003 => (Option.bind (l_markDefS a0.defs v2003.1) fun v3003 => (some (v3003.1, v2003.2, v3003.2))))
def l_markDesk (a0 : Desk) (a1 : Int) : Option (Int × (List Data) × (List Def) × (List Int)) :=
  (Option.bind (l_markProgram a0.program a1) fun v2003 => (Option.bind (l_markInt64S a0.schedule v2003.1) fun v3003 => (some (v3003.1, v2003.2.1, v2003.2.2, v3003.2))))
def l_heldInt64S_l1 : Nat → (List Int) → Int → Int → Option (Int)
  | 0, _, _, _ => none
  | n + 1, a0, p0_0, p0_1 => (if (decide (p0_1 < ((List.length a0 : Nat) : Int))) = true then (Option.bind (at? a0 p0_1) fun v5002 => (if (!decide (v5002 = p0_0)) = true then (some (-1)) else (l_heldInt64S_l1 n a0 (IntKind.i64.wrap (p0_0 + 1)) (IntKind.i64.wrap (p0_1 + 1))))) else (some p0_0))
def l_heldInt64S (a0 : List Int) (a1 : Int) : Option (Int) :=
  (l_heldInt64S_l1 fuel a0 a1 0)
mutual
def l_heldTypeS : Nat → (List TType) → Int → Option (Int)
  | 0, _, _ => none
  | n + 1, a0, a1 => (l_heldTypeS_l1 n a0 a1 0)
def l_heldTypeS_l1 : Nat → (List TType) → Int → Int → Option (Int)
  | 0, _, _, _ => none
  | n + 1, a0, p0_0, p0_1 => (if (decide (p0_1 < ((List.length a0 : Nat) : Int))) = true then (Option.bind (at? a0 p0_1) fun v5002 => (if (!decide (v5002.kind = p0_0)) = true then (some (-1)) else (Option.bind (at? a0 p0_1) fun v8002 => (Option.bind (l_markText (IntKind.i64.wrap (p0_0 + 1))) fun v8006 => (if (!sameStr v8002.name v8006) = true then (some (-1)) else (Option.bind (at? a0 p0_1) fun v11002 => (Option.bind (l_heldTypeS n v11002.kids (IntKind.i64.wrap ((IntKind.i64.wrap (p0_0 + 1)) + 1))) fun v11006 => (if (decide (v11006 < 0)) = true then (some (-1)) else (l_heldTypeS_l1 n a0 v11006 (IntKind.i64.wrap (p0_1 + 1))))))))))) else (some p0_0))
end
def l_heldConstructorS_l1 : Nat → (List Constructor) → Int → Int → Option (Int)
  | 0, _, _, _ => none
  | n + 1, a0, p0_0, p0_1 => (if (decide (p0_1 < ((List.length a0 : Nat) : Int))) = true then (Option.bind (at? a0 p0_1) fun v5002 => (Option.bind (l_markText p0_0) fun v5006 => (if (!sameStr v5002.name v5006) = true then (some (-1)) else (Option.bind (at? a0 p0_1) fun v8002 => (Option.bind (l_heldTypeS fuel v8002.fields (IntKind.i64.wrap (p0_0 + 1))) fun v8006 => (if (decide (v8006 < 0)) = true then (some (-1)) else (l_heldConstructorS_l1 n a0 v8006 (IntKind.i64.wrap (p0_1 + 1))))))))) else (some p0_0))
def l_heldConstructorS (a0 : List Constructor) (a1 : Int) : Option (Int) :=
  (l_heldConstructorS_l1 fuel a0 a1 0)
def l_heldDataS_l1 : Nat → (List Data) → Int → Int → Option (Int)
  | 0, _, _, _ => none
  | n + 1, a0, p0_0, p0_1 => (if (decide (p0_1 < ((List.length a0 : Nat) : Int))) = true then (Option.bind (at? a0 p0_1) fun v5002 => (Option.bind (l_markText p0_0) fun v5006 => (if (!sameStr v5002.name v5006) = true then (some (-1)) else (Option.bind (at? a0 p0_1) fun v8002 => (Option.bind (l_heldConstructorS v8002.cons (IntKind.i64.wrap (p0_0 + 1))) fun v8006 => (if (decide (v8006 < 0)) = true then (some (-1)) else (l_heldDataS_l1 n a0 v8006 (IntKind.i64.wrap (p0_1 + 1))))))))) else (some p0_0))
def l_heldDataS (a0 : List Data) (a1 : Int) : Option (Int) :=
  (l_heldDataS_l1 fuel a0 a1 0)
def l_heldStringS_l1 : Nat → (List ByteArray) → Int → Int → Option (Int)
  | 0, _, _, _ => none
  | n + 1, a0, p0_0, p0_1 => (if (decide (p0_1 < ((List.length a0 : Nat) : Int))) = true then (Option.bind (at? a0 p0_1) fun v5002 => (Option.bind (l_markText p0_0) fun v5005 => (if (!sameStr v5002 v5005) = true then (some (-1)) else (l_heldStringS_l1 n a0 (IntKind.i64.wrap (p0_0 + 1)) (IntKind.i64.wrap (p0_1 + 1)))))) else (some p0_0))
def l_heldStringS (a0 : List ByteArray) (a1 : Int) : Option (Int) :=
  (l_heldStringS_l1 fuel a0 a1 0)
mutual
def l_heldTermS : Nat → (List Term) → Int → Option (Int)
  | 0, _, _ => none
  | n + 1, a0, a1 => (l_heldTermS_l1 n a0 a1 0)
def l_heldTermS_l1 : Nat → (List Term) → Int → Int → Option (Int)
  | 0, _, _, _ => none
  | n + 1, a0, p0_0, p0_1 => (if (decide (p0_1 < ((List.length a0 : Nat) : Int))) = true then (Option.bind (at? a0 p0_1) fun v5002 => (if (!decide (v5002.kind = p0_0)) = true then (some (-1)) else (Option.bind (at? a0 p0_1) fun v8002 => (if (!decide (v8002.num = (IntKind.i64.wrap (p0_0 + 1)))) = true then (some (-1)) else (Option.bind (at? a0 p0_1) fun v11002 => (Option.bind (l_markText (IntKind.i64.wrap ((IntKind.i64.wrap (p0_0 + 1)) + 1))) fun v11006 => (if (!sameStr v11002.name v11006) = true then (some (-1)) else (Option.bind (at? a0 p0_1) fun v14002 => (if (!decide (v14002.typ.kind = (IntKind.i64.wrap ((IntKind.i64.wrap ((IntKind.i64.wrap (p0_0 + 1)) + 1)) + 1)))) = true then (some (-1)) else (Option.bind (at? a0 p0_1) fun v17002 => (Option.bind (l_markText (IntKind.i64.wrap ((IntKind.i64.wrap ((IntKind.i64.wrap ((IntKind.i64.wrap (p0_0 + 1)) + 1)) + 1)) + 1))) fun v17007 => (if (!sameStr v17002.typ.name v17007) = true then (some (-1)) else (Option.bind (at? a0 p0_1) fun v20002 => (Option.bind (l_heldTypeS fuel v20002.typ.kids (IntKind.i64.wrap ((IntKind.i64.wrap ((IntKind.i64.wrap ((IntKind.i64.wrap ((IntKind.i64.wrap (p0_0 + 1)) + 1)) + 1)) + 1)) + 1))) fun v20007 => (if (decide (v20007 < 0)) = true then (some (-1)) else (Option.bind (at? a0 p0_1) fun v23002 => (Option.bind (l_heldStringS v23002.names v20007) fun v23006 => (if (decide (v23006 < 0)) = true then (some (-1)) else (Option.bind (at? a0 p0_1) fun v26002 => (Option.bind (l_heldTermS n v26002.kids v23006) fun v26006 => (if (decide (v26006 < 0)) = true then (some (-1)) else (l_heldTermS_l1 n a0 v26006 (IntKind.i64.wrap (p0_1 + 1)))))))))))))))))))))))) else (some p0_0))
end
def l_heldDefS_l1 : Nat → (List Def) → Int → Int → Option (Int)
  | 0, _, _, _ => none
  | n + 1, a0, p0_0, p0_1 => (if (decide (p0_1 < ((List.length a0 : Nat) : Int))) = true then (Option.bind (at? a0 p0_1) fun v5002 => (Option.bind (l_markText p0_0) fun v5006 => (if (!sameStr v5002.name v5006) = true then (some (-1)) else (Option.bind (at? a0 p0_1) fun v8002 => (if (!decide (v8002.typ.kind = (IntKind.i64.wrap (p0_0 + 1)))) = true then (some (-1)) else (Option.bind (at? a0 p0_1) fun v11002 => (Option.bind (l_markText (IntKind.i64.wrap ((IntKind.i64.wrap (p0_0 + 1)) + 1))) fun v11007 => (if (!sameStr v11002.typ.name v11007) = true then (some (-1)) else (Option.bind (at? a0 p0_1) fun v14002 => (Option.bind (l_heldTypeS fuel v14002.typ.kids (IntKind.i64.wrap ((IntKind.i64.wrap ((IntKind.i64.wrap (p0_0 + 1)) + 1)) + 1))) fun v14007 => (if (decide (v14007 < 0)) = true then (some (-1)) else (Option.bind (at? a0 p0_1) fun v17002 => (if (!decide (v17002.body.kind = v14007)) = true then (some (-1)) else (Option.bind (at? a0 p0_1) fun v20002 => (if (!decide (v20002.body.num = (IntKind.i64.wrap (v14007 + 1)))) = true then (some (-1)) else (Option.bind (at? a0 p0_1) fun v23002 => (Option.bind (l_markText (IntKind.i64.wrap ((IntKind.i64.wrap (v14007 + 1)) + 1))) fun v23007 => (if (!sameStr v23002.body.name v23007) = true then (some (-1)) else (Option.bind (at? a0 p0_1) fun v26002 => (if (!decide (v26002.body.typ.kind = (IntKind.i64.wrap ((IntKind.i64.wrap ((IntKind.i64.wrap (v14007 + 1)) + 1)) + 1)))) = true then (some (-1)) else (Option.bind (at? a0 p0_1) fun v29002 => (Option.bind (l_markText (IntKind.i64.wrap ((IntKind.i64.wrap ((IntKind.i64.wrap ((IntKind.i64.wrap (v14007 + 1)) + 1)) + 1)) + 1))) fun v29008 => (if (!sameStr v29002.body.typ.name v29008) = true then (some (-1)) else (Option.bind (at? a0 p0_1) fun v32002 => (Option.bind (l_heldTypeS fuel v32002.body.typ.kids (IntKind.i64.wrap ((IntKind.i64.wrap ((IntKind.i64.wrap ((IntKind.i64.wrap ((IntKind.i64.wrap (v14007 + 1)) + 1)) + 1)) + 1)) + 1))) fun v32008 => (if (decide (v32008 < 0)) = true then (some (-1)) else (Option.bind (at? a0 p0_1) fun v35002 => (Option.bind (l_heldStringS v35002.body.names v32008) fun v35007 => (if (decide (v35007 < 0)) = true then (some (-1)) else (Option.bind (at? a0 p0_1) fun v38002 => (Option.bind (l_heldTermS fuel v38002.body.kids v35007) fun v38007 => (if (decide (v38007 < 0)) = true then (some (-1)) else (l_heldDefS_l1 n a0 v38007 (IntKind.i64.wrap (p0_1 + 1))))))))))))))))))))))))))))))))))) else (some p0_0))
def l_heldDefS (a0 : List Def) (a1 : Int) : Option (Int) :=
  (l_heldDefS_l1 fuel a0 a1 0)
def l_heldProgram (a0 : TProgram) (a1 : Int) : Option (Int) :=
  (Option.bind (l_heldDataS a0.datas a1) fun v2003 => (if (decide (v2003 < 0)) = true then (some (-1)) else (Option.bind (l_heldDefS a0.defs v2003) fun v5003 => (if (decide (v5003 < 0)) = true then (some (-1)) else (some v5003)))))
def l_heldDesk (a0 : Desk) (a1 : Int) : Option (Int) :=
  (Option.bind (l_heldProgram a0.program a1) fun v2003 => (if (decide (v2003 < 0)) = true then (some (-1)) else (Option.bind (l_heldInt64S a0.schedule v2003) fun v5003 => (if (decide (v5003 < 0)) = true then (some (-1)) else (some v5003)))))
def l_FnExactNewDesk  : Option (Bool) :=
  (Option.bind s_NewDesk fun v2000 => (Option.bind i_NewDesk fun v3000 => (Option.bind (l_eqDesk v3000 v2000) fun v4002 => (if (!v4002) = true then (some false) else (Option.bind (l_markDesk v3000 1) fun v7002 => (Option.bind (l_heldDesk (⟨v3000.loaded, (⟨v7002.2.1, v7002.2.2.1⟩ : TProgram), v7002.2.2.2, v3000.machines⟩ : Desk) 1) fun v9002 => (if (decide (v9002 < 0)) = true then (some false) else (if (!decide (v9002 = v7002.1)) = true then (some false) else (Option.bind i_NewDesk fun v14000 => (Option.bind (l_eqDesk v14000 v2000) fun v15002 => (if (!v15002) = true then (some false) else (Option.bind (l_heldDesk (⟨v3000.loaded, (⟨v7002.2.1, v7002.2.2.1⟩ : TProgram), v7002.2.2.2, v3000.machines⟩ : Desk) 1) fun v18002 => (if (decide (v18002 < 0)) = true then (some false) else (if (!decide (v18002 = v7002.1)) = true then (some false) else (some true)))))))))))))))
end Go.Proofs.Ytfbnlkaggggmiaa.Ab
