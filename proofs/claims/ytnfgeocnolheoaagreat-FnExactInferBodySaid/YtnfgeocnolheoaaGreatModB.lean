/-
  Models of the functions. Printed by wip/ab/gen.py.
-/
import Derived.Test.YtnfgeocnolheoaaGreatModT
namespace Go.Proofs.YtnfgeocnolheoaaGreat.Ab
set_option linter.unusedVariables false
set_option linter.unusedSimpArgs false
set_option maxRecDepth 20000
set_option maxHeartbeats 4000000
open Go.RowKit
mutual
def IY:Nat→TType→Option (TType)
 |0,_=>none
 |n+1,a0=>(Dq n a0 [] 0)
def Dq:Nat→TType→(List TType)→Int→Option (TType)
 |0,_,_,_=>none
 |n+1,a0,p1_0,p1_1=>(if (decide (p1_1<(a0.kids.length:Int)))=true then ((at? a0.kids p1_1).bind fun v6005=>((IY n v6005).bind fun v6007=>((IN p1_0 [v6007]).bind fun v6009=>(Dq n a0 v6009 (IntKind.i64.wrap (p1_1+1)))))) else (some (⟨a0.kind,a0.name,p1_0⟩:TType)))
end
def IZ (a0:TProgram) (a1:Int):Option (TType × Int):=
 ((H2 a0).bind fun v2000=>(if (!decide (v2000=0))=true then (some ((⟨0,ByteArray.empty,[]⟩:TType),v2000)) else ((IF a1 0 (IntKind.i64.wrap ((a0.defs.length:Int) - 1))).bind fun v5005=>(if (!v5005)=true then (some ((⟨0,ByteArray.empty,[]⟩:TType),3)) else ((at? a0.defs a1).bind fun v7003=>((BQ fuel a0 v7003.body (⟨[],[],[]⟩:L05Env) 0).bind fun v7006=>(if (!v7006.2)=true then (some ((⟨0,ByteArray.empty,[]⟩:TType),8)) else ((IY fuel v7006.1).bind fun v10001=>(some (v10001,0))))))))))
def GR (a0:TProgram) (a1:Int):Option (Bool):=
 (if (decide (0≤a1))=true then (some (decide (a1<(a0.defs.length:Int)))) else (some false))
mutual
def F2:Nat→TType→Option (TType)
 |0,_=>none
 |n+1,a0=>(Cj n a0 [] 0)
def Cj:Nat→TType→(List TType)→Int→Option (TType)
 |0,_,_,_=>none
 |n+1,a0,p1_0,p1_1=>(if (decide (p1_1<(a0.kids.length:Int)))=true then ((at? a0.kids p1_1).bind fun v5000=>((F2 n v5000).bind fun v6003=>((IN p1_0 [v6003]).bind fun v6005=>(Cj n a0 v6005 (IntKind.i64.wrap (p1_1+1)))))) else (some (⟨a0.kind,a0.name,p1_0⟩:TType)))
end
def HI (a0:TProgram) (a1:Int):Option (TType × Int):=
 ((GQ a0).bind fun v2001=>(if (!decide (v2001=0))=true then (some ((⟨0,ByteArray.empty,[]⟩:TType),v2001)) else ((GR a0 a1).bind fun v5002=>(if (!v5002)=true then (some ((⟨0,ByteArray.empty,[]⟩:TType),3)) else ((at? a0.defs a1).bind fun v7005=>((AM fuel (⟨a0⟩:Typer) v7005.body [] 0).bind fun v7008=>(if (!v7008.2)=true then (some ((⟨0,ByteArray.empty,[]⟩:TType),8)) else ((F2 fuel v7008.1.typ).bind fun v10004=>(some (v10004,0))))))))))
def DG:Nat→Int→ByteArray→Option (ByteArray)
 |0,_,_=>none
 |n+1,p0_0,p0_1=>(if (decide (0<p0_0))=true then ((Y8 [(IntKind.u8.wrap (IntKind.i64.wrap (48+(Int.tmod p0_0 10))))]).bind fun v6005=>((US v6005 p0_1).bind fun v6007=>(DG n (IntKind.i64.wrap (Int.tdiv p0_0 10)) v6007))) else ((US (ByteArray.mk #[109]) p0_1).bind fun v8001=>(some v8001)))
def B5 (a0:Int):Option (ByteArray):=
 (if (decide (a0≤0))=true then (some (ByteArray.mk #[109,48])) else (DG fuel a0 (ByteArray.mk #[])))
mutual
def C1:Nat→(List TType)→Int→Option (Int × (List TType))
 |0,_,_=>none
 |n+1,a0,a1=>(DP n a0 a1 0)
def DP:Nat→(List TType)→Int→Int→Option (Int × (List TType))
 |0,_,_,_=>none
 |n+1,p0_0,p0_1,p0_2=>(if (decide (p0_2<(p0_0.length:Int)))=true then ((at? p0_0 p0_2).bind fun v5003=>((CZ p0_0 p0_2 (⟨p0_1,v5003.name,v5003.kids⟩:TType)).bind fun v5005_29=>((B5 (IntKind.i64.wrap (p0_1+1))).bind fun v7003=>((at? v5005_29 p0_2).bind fun v7004=>((CZ v5005_29 p0_2 (⟨v7004.kind,v7003,v7004.kids⟩:TType)).bind fun v7006_31=>((at? v7006_31 p0_2).bind fun v9002=>((C1 n v9002.kids (IntKind.i64.wrap ((IntKind.i64.wrap (p0_1+1))+1))).bind fun v9006=>((CZ v7006_31 p0_2 (⟨v9002.kind,v9002.name,v9006.2⟩:TType)).bind fun v9006_32=>(DP n v9006_32 v9006.1 (IntKind.i64.wrap (p0_2+1))))))))))) else (some (p0_1,p0_0)))
end
def BS:Nat→(List Constructor)→Int→Int→Option (Int × (List Constructor))
 |0,_,_,_=>none
 |n+1,p0_0,p0_1,p0_2=>(if (decide (p0_2<(p0_0.length:Int)))=true then ((B5 p0_1).bind fun v5003=>((at? p0_0 p0_2).bind fun v5004=>((CZ p0_0 p0_2 (⟨v5003,v5004.fields⟩:Constructor)).bind fun v5006_23=>((at? v5006_23 p0_2).bind fun v7002=>((C1 fuel v7002.fields (IntKind.i64.wrap (p0_1+1))).bind fun v7006=>((CZ v5006_23 p0_2 (⟨v7002.name,v7006.2⟩:Constructor)).bind fun v7006_24=>(BS n v7006_24 v7006.1 (IntKind.i64.wrap (p0_2+1))))))))) else (some (p0_1,p0_0)))
def FI (a0:List Constructor) (a1:Int):Option (Int × (List Constructor)):=
 (BS fuel a0 a1 0)
def DQ:Nat→(List Data)→Int→Int→Option (Int × (List Data))
 |0,_,_,_=>none
 |n+1,p0_0,p0_1,p0_2=>(if (decide (p0_2<(p0_0.length:Int)))=true then ((B5 p0_1).bind fun v5003=>((at? p0_0 p0_2).bind fun v5004=>((CZ p0_0 p0_2 (⟨v5003,v5004.cons⟩:Data)).bind fun v5006_23=>((at? v5006_23 p0_2).bind fun v7002=>((FI v7002.cons (IntKind.i64.wrap (p0_1+1))).bind fun v7006=>((CZ v5006_23 p0_2 (⟨v7002.name,v7006.2⟩:Data)).bind fun v7006_24=>(DQ n v7006_24 v7006.1 (IntKind.i64.wrap (p0_2+1))))))))) else (some (p0_1,p0_0)))
def J4 (a0:List Data) (a1:Int):Option (Int × (List Data)):=
 (DQ fuel a0 a1 0)
def Cc:Nat→(List ByteArray)→Int→Int→Option (Int × (List ByteArray))
 |0,_,_,_=>none
 |n+1,p0_0,p0_1,p0_2=>(if (decide (p0_2<(p0_0.length:Int)))=true then ((B5 p0_1).bind fun v5003=>((at? p0_0 p0_2).bind fun v5004=>((CZ p0_0 p0_2 v5003).bind fun v5005_16=>(Cc n v5005_16 (IntKind.i64.wrap (p0_1+1)) (IntKind.i64.wrap (p0_2+1)))))) else (some (p0_1,p0_0)))
def Gd (a0:List ByteArray) (a1:Int):Option (Int × (List ByteArray)):=
 (Cc fuel a0 a1 0)
mutual
def E8:Nat→(List Term)→Int→Option (Int × (List Term))
 |0,_,_=>none
 |n+1,a0,a1=>(DR n a0 a1 0)
def DR:Nat→(List Term)→Int→Int→Option (Int × (List Term))
 |0,_,_,_=>none
 |n+1,p0_0,p0_1,p0_2=>(if (decide (p0_2<(p0_0.length:Int)))=true then ((at? p0_0 p0_2).bind fun v5003=>((CZ p0_0 p0_2 (⟨p0_1,v5003.num,v5003.name,v5003.typ,v5003.names,v5003.kids⟩:Term)).bind fun v5005_85=>((at? v5005_85 p0_2).bind fun v7003=>((CZ v5005_85 p0_2 (⟨v7003.kind,(IntKind.i64.wrap (p0_1+1)),v7003.name,v7003.typ,v7003.names,v7003.kids⟩:Term)).bind fun v7005_86=>((B5 (IntKind.i64.wrap ((IntKind.i64.wrap (p0_1+1))+1))).bind fun v9003=>((at? v7005_86 p0_2).bind fun v9004=>((CZ v7005_86 p0_2 (⟨v9004.kind,v9004.num,v9003,v9004.typ,v9004.names,v9004.kids⟩:Term)).bind fun v9006_88=>((at? v9006_88 p0_2).bind fun v11003=>((CZ v9006_88 p0_2 (⟨v11003.kind,v11003.num,v11003.name,(⟨(IntKind.i64.wrap ((IntKind.i64.wrap ((IntKind.i64.wrap (p0_1+1))+1))+1)),v11003.typ.name,v11003.typ.kids⟩:TType),v11003.names,v11003.kids⟩:Term)).bind fun v11006_89=>((B5 (IntKind.i64.wrap ((IntKind.i64.wrap ((IntKind.i64.wrap ((IntKind.i64.wrap (p0_1+1))+1))+1))+1))).bind fun v13003=>((at? v11006_89 p0_2).bind fun v13004=>((CZ v11006_89 p0_2 (⟨v13004.kind,v13004.num,v13004.name,(⟨v13004.typ.kind,v13003,v13004.typ.kids⟩:TType),v13004.names,v13004.kids⟩:Term)).bind fun v13007_91=>((at? v13007_91 p0_2).bind fun v15002=>((C1 fuel v15002.typ.kids (IntKind.i64.wrap ((IntKind.i64.wrap ((IntKind.i64.wrap ((IntKind.i64.wrap ((IntKind.i64.wrap (p0_1+1))+1))+1))+1))+1))).bind fun v15007=>((CZ v13007_91 p0_2 (⟨v15002.kind,v15002.num,v15002.name,(⟨v15002.typ.kind,v15002.typ.name,v15007.2⟩:TType),v15002.names,v15002.kids⟩:Term)).bind fun v15007_93=>((at? v15007_93 p0_2).bind fun v16002=>((Gd v16002.names v15007.1).bind fun v16006=>((CZ v15007_93 p0_2 (⟨v16002.kind,v16002.num,v16002.name,v16002.typ,v16006.2,v16002.kids⟩:Term)).bind fun v16006_95=>((at? v16006_95 p0_2).bind fun v17002=>((E8 n v17002.kids v16006.1).bind fun v17006=>((CZ v16006_95 p0_2 (⟨v17002.kind,v17002.num,v17002.name,v17002.typ,v17002.names,v17006.2⟩:Term)).bind fun v17006_96=>(DR n v17006_96 v17006.1 (IntKind.i64.wrap (p0_2+1)))))))))))))))))))))))) else (some (p0_1,p0_0)))
end
def Dr:Nat→(List Def)→Int→Int→Option (Int × (List Def))
 |0,_,_,_=>none
 |n+1,p0_0,p0_1,p0_2=>(if (decide (p0_2<(p0_0.length:Int)))=true then ((B5 p0_1).bind fun v5003=>((at? p0_0 p0_2).bind fun v5004=>((CZ p0_0 p0_2 (⟨v5003,v5004.typ,v5004.body⟩:Def)).bind fun v5006_135=>((at? v5006_135 p0_2).bind fun v7003=>((CZ v5006_135 p0_2 (⟨v7003.name,(⟨(IntKind.i64.wrap (p0_1+1)),v7003.typ.name,v7003.typ.kids⟩:TType),v7003.body⟩:Def)).bind fun v7006_136=>((B5 (IntKind.i64.wrap ((IntKind.i64.wrap (p0_1+1))+1))).bind fun v9003=>((at? v7006_136 p0_2).bind fun v9004=>((CZ v7006_136 p0_2 (⟨v9004.name,(⟨v9004.typ.kind,v9003,v9004.typ.kids⟩:TType),v9004.body⟩:Def)).bind fun v9007_138=>((at? v9007_138 p0_2).bind fun v11002=>((C1 fuel v11002.typ.kids (IntKind.i64.wrap ((IntKind.i64.wrap ((IntKind.i64.wrap (p0_1+1))+1))+1))).bind fun v11007=>((CZ v9007_138 p0_2 (⟨v11002.name,(⟨v11002.typ.kind,v11002.typ.name,v11007.2⟩:TType),v11002.body⟩:Def)).bind fun v11007_140=>((at? v11007_140 p0_2).bind fun v12003=>((CZ v11007_140 p0_2 (⟨v12003.name,v12003.typ,(⟨v11007.1,v12003.body.num,v12003.body.name,v12003.body.typ,v12003.body.names,v12003.body.kids⟩:Term)⟩:Def)).bind fun v12006_141=>((at? v12006_141 p0_2).bind fun v14003=>((CZ v12006_141 p0_2 (⟨v14003.name,v14003.typ,(⟨v14003.body.kind,(IntKind.i64.wrap (v11007.1 +1)),v14003.body.name,v14003.body.typ,v14003.body.names,v14003.body.kids⟩:Term)⟩:Def)).bind fun v14006_142=>((B5 (IntKind.i64.wrap ((IntKind.i64.wrap (v11007.1 +1))+1))).bind fun v16003=>((at? v14006_142 p0_2).bind fun v16004=>((CZ v14006_142 p0_2 (⟨v16004.name,v16004.typ,(⟨v16004.body.kind,v16004.body.num,v16003,v16004.body.typ,v16004.body.names,v16004.body.kids⟩:Term)⟩:Def)).bind fun v16007_144=>((at? v16007_144 p0_2).bind fun v18003=>((CZ v16007_144 p0_2 (⟨v18003.name,v18003.typ,(⟨v18003.body.kind,v18003.body.num,v18003.body.name,(⟨(IntKind.i64.wrap ((IntKind.i64.wrap ((IntKind.i64.wrap (v11007.1 +1))+1))+1)),v18003.body.typ.name,v18003.body.typ.kids⟩:TType),v18003.body.names,v18003.body.kids⟩:Term)⟩:Def)).bind fun v18007_145=>((B5 (IntKind.i64.wrap ((IntKind.i64.wrap ((IntKind.i64.wrap ((IntKind.i64.wrap (v11007.1 +1))+1))+1))+1))).bind fun v20003=>((at? v18007_145 p0_2).bind fun v20004=>((CZ v18007_145 p0_2 (⟨v20004.name,v20004.typ,(⟨v20004.body.kind,v20004.body.num,v20004.body.name,(⟨v20004.body.typ.kind,v20003,v20004.body.typ.kids⟩:TType),v20004.body.names,v20004.body.kids⟩:Term)⟩:Def)).bind fun v20008_147=>((at? v20008_147 p0_2).bind fun v22002=>((C1 fuel v22002.body.typ.kids (IntKind.i64.wrap ((IntKind.i64.wrap ((IntKind.i64.wrap ((IntKind.i64.wrap ((IntKind.i64.wrap (v11007.1 +1))+1))+1))+1))+1))).bind fun v22008=>((CZ v20008_147 p0_2 (⟨v22002.name,v22002.typ,(⟨v22002.body.kind,v22002.body.num,v22002.body.name,(⟨v22002.body.typ.kind,v22002.body.typ.name,v22008.2⟩:TType),v22002.body.names,v22002.body.kids⟩:Term)⟩:Def)).bind fun v22008_149=>((at? v22008_149 p0_2).bind fun v23002=>((Gd v23002.body.names v22008.1).bind fun v23007=>((CZ v22008_149 p0_2 (⟨v23002.name,v23002.typ,(⟨v23002.body.kind,v23002.body.num,v23002.body.name,v23002.body.typ,v23007.2,v23002.body.kids⟩:Term)⟩:Def)).bind fun v23007_151=>((at? v23007_151 p0_2).bind fun v24002=>((E8 fuel v24002.body.kids v23007.1).bind fun v24007=>((CZ v23007_151 p0_2 (⟨v24002.name,v24002.typ,(⟨v24002.body.kind,v24002.body.num,v24002.body.name,v24002.body.typ,v24002.body.names,v24007.2⟩:Term)⟩:Def)).bind fun v24007_152=>(Dr n v24007_152 v24007.1 (IntKind.i64.wrap (p0_2+1))))))))))))))))))))))))))))))))))) else (some (p0_1,p0_0)))
def LT (a0:List Def) (a1:Int):Option (Int × (List Def)):=
 (Dr fuel a0 a1 0)
def Ge (a0:TProgram) (a1:Int):Option (Int × (List Data) × (List Def)):=
 ((J4 a0.datas a1).bind fun v2003=>((LT a0.defs v2003.1).bind fun v3003=>(some (v3003.1,v2003.2,v3003.2))))
def JZ (a0:TType) (a1:Int):Option (Int × (List TType)):=
 ((C1 fuel a0.kids a1).bind fun v2003=>(some (v2003.1,v2003.2)))
mutual
def E9:Nat→(List TType)→Int→Option (Int)
 |0,_,_=>none
 |n+1,a0,a1=>(DS n a0 a1 0)
def DS:Nat→(List TType)→Int→Int→Option (Int)
 |0,_,_,_=>none
 |n+1,a0,p0_0,p0_1=>(if (decide (p0_1<(a0.length:Int)))=true then ((at? a0 p0_1).bind fun v5002=>(if (!decide (v5002.kind=p0_0))=true then (some (-1)) else ((at? a0 p0_1).bind fun v8002=>((B5 (IntKind.i64.wrap (p0_0+1))).bind fun v8006=>(if (!sameStr v8002.name v8006)=true then (some (-1)) else ((at? a0 p0_1).bind fun v11002=>((E9 n v11002.kids (IntKind.i64.wrap ((IntKind.i64.wrap (p0_0+1))+1))).bind fun v11006=>(if (decide (v11006<0))=true then (some (-1)) else (DS n a0 v11006 (IntKind.i64.wrap (p0_1+1))))))))))) else (some p0_0))
end
def H5 (a0:TType) (a1:Int):Option (Int):=
 ((E9 fuel a0.kids a1).bind fun v2003=>(if (decide (v2003<0))=true then (some (-1)) else (some v2003)))
def C7 (v8002:TType × Int) (v18002:Int × (List TType)) (p2_0:Bool):Option (Bool):=
 (if p2_0=true then (some false) else ((H5 (⟨v8002.1.kind,v8002.1.name,v18002.2⟩:TType) 1).bind fun v29002=>(if (decide (v29002<0))=true then (some false) else (if (!decide (v29002=v18002.1))=true then (some false) else (some true)))))
def CL (a0:TProgram) (a1:Int) (v6003:TType × Int) (v8002:TType × Int) (p1_0:Bool):Option (Bool):=
 (if p1_0=true then (some false) else ((JZ v8002.1 1).bind fun v18002=>((H5 (⟨v8002.1.kind,v8002.1.name,v18002.2⟩:TType) 1).bind fun v20002=>(if (decide (v20002<0))=true then (some false) else (if (!decide (v20002=v18002.1))=true then (some false) else ((Cd a0).bind fun v25001=>((HI v25001 a1).bind fun v25003=>((D7 fuel v25003.1 v6003.1).bind fun v26002=>(if (!v26002)=true then (C7 v8002 v18002 true) else (C7 v8002 v18002 (!decide (v25003.2 =v6003.2))))))))))))
def C8 (a0:TProgram) (a1:Int) (v6003:TType × Int) (v7001:TProgram) (v8002:TType × Int) (p0_0:Bool):Option (Bool):=
 (if p0_0=true then (some false) else ((Cd a0).bind fun v11002=>((FA v7001 v11002).bind fun v11003=>(if (!v11003)=true then (some false) else ((Ge v7001 1).bind fun v14002=>(if (decide (v14002.1 <0))=true then (CL a0 a1 v6003 v8002 true) else ((D7 fuel v8002.1 v6003.1).bind fun v15005=>(if (!v15005)=true then (CL a0 a1 v6003 v8002 true) else (CL a0 a1 v6003 v8002 (!decide (v8002.2 =v6003.2)))))))))))
def FJ (a0:TProgram) (a1:Int):Option (Bool):=
 ((HJ a0 1048576).bind fun v3002=>(if (decide (v3002<0))=true then (some true) else ((Cd a0).bind fun v6001=>((IZ v6001 a1).bind fun v6003=>((Cd a0).bind fun v7001=>((HI v7001 a1).bind fun v8002=>((D7 fuel v8002.1 v6003.1).bind fun v9002=>(if (!v9002)=true then (C8 a0 a1 v6003 v7001 v8002 true) else (C8 a0 a1 v6003 v7001 v8002 (!decide (v8002.2 =v6003.2)))))))))))
end Go.Proofs.YtnfgeocnolheoaaGreat.Ab
