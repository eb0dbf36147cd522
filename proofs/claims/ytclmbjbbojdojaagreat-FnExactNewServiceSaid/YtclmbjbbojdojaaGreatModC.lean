/-
  Models of the functions. Printed by wip/ab/gen.py.
-/
import Derived.Test.YtclmbjbbojdojaaGreatManP
import Derived.Test.YtclmbjbbojdojaaGreatModS
namespace Go.Proofs.YtclmbjbbojdojaaGreat.Ab
set_option linter.unusedVariables false
set_option linter.unusedSimpArgs false
set_option maxRecDepth 20000
set_option maxHeartbeats 4000000
open Go.RowKit
def EG:Nat→Grid→(List (List Parcel))→(List (List Int))→Int→Option (Cluster)
 |0,_,_,_,_=>none
 |n+1,a0,v4003,p1_0,p1_1=>(if (decide (p1_1<((List.length a0.shards:Nat):Int)))=true then (Option.bind (rep? 7 (0:Int)) fun v8002=>(Option.bind (app? p1_0 [v8002]) fun v8004=>(EG n a0 v4003 v8004 (IntKind.i64.wrap (p1_1+1))))) else (Option.bind (rep? ((List.length a0.shards:Nat):Int) (0:Int)) fun v9001=>(Option.bind (rep? ((List.length a0.shards:Nat):Int) (0:Int)) fun v10001=>(some (⟨a0,v4003,p1_0,v9001,v10001⟩:Cluster)))))
def KS (a0:Grid):Option (Cluster):=
 (Option.bind (rep? (IntKind.i64.wrap (((List.length a0.shards:Nat):Int)*((List.length a0.shards:Nat):Int))) []) fun v4003=>(EG fuel a0 v4003 [] 0))
def EL (a0:ShardCell):Option (ShardCell):=
 (Option.bind (FN a0.data) fun v2016=>(Option.bind (app? [] a0.aux) fun v2022=>(some (⟨a0.kind,a0.level,a0.value,v2016,v2022⟩:ShardCell))))
def CU:Nat→Shard→(List ShardVar)→(List ShardRedex)→(List ShardCell)→Int→Option (Shard)
 |0,_,_,_,_,_=>none
 |n+1,a0,v2005,v2011,p1_0,p1_1=>(if (decide (p1_1<((List.length a0.cells:Nat):Int)))=true then (Option.bind (at? a0.cells p1_1) fun v6007=>(Option.bind (EL v6007) fun v6008=>(Option.bind (app? p1_0 [v6008]) fun v6010=>(CU n a0 v2005 v2011 v6010 (IntKind.i64.wrap (p1_1+1)))))) else (some (⟨p1_0,v2005,v2011⟩:Shard)))
def Ee (a0:Shard):Option (Shard):=
 (Option.bind (app? [] a0.vars) fun v2005=>(Option.bind (app? [] a0.redexes) fun v2011=>(CU fuel a0 v2005 v2011 [] 0)))
def Ct:Nat→Grid→(List Shard)→Int→Option (Grid)
 |0,_,_,_=>none
 |n+1,a0,p1_0,p1_1=>(if (decide (p1_1<((List.length a0.shards:Nat):Int)))=true then (Option.bind (at? a0.shards p1_1) fun v6007=>(Option.bind (Ee v6007) fun v6008=>(Option.bind (app? p1_0 [v6008]) fun v6010=>(Ct n a0 v6010 (IntKind.i64.wrap (p1_1+1)))))) else (some (⟨p1_0,a0.root⟩:Grid)))
def F3 (a0:Grid):Option (Grid):=
 (Ct fuel a0 [] 0)
mutual
def An:Nat→(List (List Parcel))→(List (List Parcel))→Int→Option ((List (List Parcel)))
 |0,_,_,_=>none
 |n+1,a0,p5_0,p5_1=>(if (decide (p5_1<((List.length a0:Nat):Int)))=true then (A4 n a0 p5_0 p5_1 [] 0) else (some p5_0))
def A4:Nat→(List (List Parcel))→(List (List Parcel))→Int→(List Parcel)→Int→Option ((List (List Parcel)))
 |0,_,_,_,_,_=>none
 |n+1,a0,p5_0,p5_1,p9_0,p9_1=>(Option.bind (at? a0 p5_1) fun v8003=>(if (decide (p9_1<((List.length v8003:Nat):Int)))=true then (Option.bind (at? a0 p5_1) fun v10002=>(Option.bind (at? v10002 p9_1) fun v10005=>(Option.bind (EL v10005.cell) fun v11001=>(Option.bind (app? p9_0 [(⟨v10005.kind,v11001,v10005.a,v10005.b⟩:Parcel)]) fun v12003=>(A4 n a0 p5_0 p5_1 v12003 (IntKind.i64.wrap (p9_1+1))))))) else (Option.bind (app? p5_0 [p9_0]) fun v13003=>(An n a0 v13003 (IntKind.i64.wrap (p5_1+1))))))
end
def D4 (a0:List (List Parcel)):Option ((List (List Parcel))):=
 (An fuel a0 [] 0)
def CV:Nat→(List (List Int))→(List (List Int))→Int→Option ((List (List Int)))
 |0,_,_,_=>none
 |n+1,a0,p1_0,p1_1=>(if (decide (p1_1<((List.length a0:Nat):Int)))=true then (Option.bind (at? a0 p1_1) fun v6003=>(Option.bind (FN v6003) fun v6005=>(Option.bind (app? p1_0 [v6005]) fun v6007=>(CV n a0 v6007 (IntKind.i64.wrap (p1_1+1)))))) else (some p1_0))
def FO (a0:List (List Int)):Option ((List (List Int))):=
 (CV fuel a0 [] 0)
def KU (a0:Cluster):Option (Cluster):=
 (Option.bind (F3 a0.grid) fun v2003=>(Option.bind (D4 a0.channels) fun v2008=>(Option.bind (FO a0.counts) fun v2013=>(Option.bind (FN a0.sent) fun v2018=>(Option.bind (FN a0.got) fun v2023=>(some (⟨v2003,v2008,v2013,v2018,v2023⟩:Cluster)))))))
def CK:Nat→Int→(Grid × Int)→(List (List Parcel))→(List Int)→(List Int)→(List (List Int))→Int→Option (Cluster × Int)
 |0,_,_,_,_,_,_,_=>none
 |n+1,a2,v2003,v5004,v5006,v5008,p1_0,p1_1=>(if (decide (p1_1<a2))=true then (Option.bind (rep? 7 (0:Int)) fun v8002=>(Option.bind (app? p1_0 [v8002]) fun v8004=>(CK n a2 v2003 v5004 v5006 v5008 v8004 (IntKind.i64.wrap (p1_1+1))))) else (some ((⟨v2003.1,v5004,p1_0,v5006,v5008⟩:Cluster),0)))
def F4 (a0:Net) (a1:List Int) (a2:Int):Option (Cluster × Int):=
 (Option.bind (Hp a0 a1 a2) fun v2003=>(if (!decide (v2003.2 =0))=true then (some ((⟨(⟨[],(⟨0,0,0⟩:Address)⟩:Grid),[],[],[],[]⟩:Cluster),v2003.2)) else (Option.bind (rep? (IntKind.i64.wrap (a2*a2)) []) fun v5004=>(Option.bind (rep? a2 (0:Int)) fun v5006=>(Option.bind (rep? a2 (0:Int)) fun v5008=>(CK fuel a2 v2003 v5004 v5006 v5008 [] 0))))))
def C6 (a0:List ShardVar):Option ((List ShardVar)):=
 (Option.bind (app? [] a0) fun v4002=>(some v4002))
def Ce (a0:List ShardRedex):Option ((List ShardRedex)):=
 (Option.bind (app? [] a0) fun v4002=>(some v4002))
def BJ (a0:List Address):Option ((List Address)):=
 (Option.bind (app? [] a0) fun v4002=>(some v4002))
def DJ:Nat→Shard→(List ShardVar)→(List ShardRedex)→(List ShardCell)→Int→Option (Shard)
 |0,_,_,_,_,_=>none
 |n+1,a0,v2002,v2005,p1_0,p1_1=>(if (decide (p1_1<((List.length a0.cells:Nat):Int)))=true then (Option.bind (at? a0.cells p1_1) fun v5000=>(Option.bind (BB v5000.data) fun v6002=>(Option.bind (BJ v5000.aux) fun v6005=>(Option.bind (app? p1_0 [(⟨v5000.kind,v5000.level,v5000.value,v6002,v6005⟩:ShardCell)]) fun v7004=>(DJ n a0 v2002 v2005 v7004 (IntKind.i64.wrap (p1_1+1))))))) else (some (⟨p1_0,v2002,v2005⟩:Shard)))
def Fq (a0:Shard):Option (Shard):=
 (Option.bind (C6 a0.vars) fun v2002=>(Option.bind (Ce a0.redexes) fun v2005=>(DJ fuel a0 v2002 v2005 [] 0)))
def Dn:Nat→Grid→(List Shard)→Int→Option (Grid)
 |0,_,_,_=>none
 |n+1,a0,p1_0,p1_1=>(if (decide (p1_1<((List.length a0.shards:Nat):Int)))=true then (Option.bind (at? a0.shards p1_1) fun v5000=>(Option.bind (Fq v5000) fun v6003=>(Option.bind (app? p1_0 [v6003]) fun v6005=>(Dn n a0 v6005 (IntKind.i64.wrap (p1_1+1)))))) else (some (⟨p1_0,a0.root⟩:Grid)))
def Hq (a0:Grid):Option (Grid):=
 (Dn fuel a0 [] 0)
def Df (a0:List Parcel):Option ((List Parcel)):=
 (Option.bind (app? [] a0) fun v4002=>(some v4002))
def Bx:Nat→(List Parcel)→(List MParcel)→Int→Option ((List Parcel))
 |0,_,_,_=>none
 |n+1,v2001,p1_0,p1_1=>(if (decide (p1_1<((List.length v2001:Nat):Int)))=true then (Option.bind (at? p1_0 p1_1) fun v6006=>(Option.bind (MParcel.sh? v6006) fun v6009_45=>(Option.bind (BB v6009_45.cell.data) fun v6010=>(Option.bind (at? p1_0 p1_1) fun v6013=>(Option.bind (MParcel.sh? v6013) fun v6016_46=>(Option.bind (BJ v6016_46.cell.aux) fun v6017=>(Option.bind (at? p1_0 p1_1) fun v6018=>(Option.bind (MParcel.sh? v6018) fun v6021_47=>(Option.bind (Ah p1_0 p1_1 (MParcel.ow (⟨v6021_47.kind,(⟨v6021_47.cell.kind,v6021_47.cell.level,v6021_47.cell.value,v6010,v6017⟩:ShardCell),v6021_47.a,v6021_47.b⟩:Parcel))) fun v6025_48=>(Bx n v2001 v6025_48 (IntKind.i64.wrap (p1_1+1)))))))))))) else (Option.bind (MParcel.ow? p1_0) fun mx0=>(some mx0)))
def Ef (a0:List Parcel):Option ((List Parcel)):=
 (Option.bind (Df a0) fun v2001=>(Bx fuel v2001 (List.map MParcel.sh v2001) 0))
def CA:Nat→(List (List Parcel))→(List (List Parcel))→Int→Option ((List (List Parcel)))
 |0,_,_,_=>none
 |n+1,a0,p1_0,p1_1=>(if (decide (p1_1<((List.length a0:Nat):Int)))=true then (Option.bind (at? a0 p1_1) fun v6004=>(Option.bind (Ef v6004) fun v6006=>(Option.bind (at? p1_0 p1_1) fun v6007=>(Option.bind (Ah p1_0 p1_1 v6006) fun v6008_12=>(CA n a0 v6008_12 (IntKind.i64.wrap (p1_1+1))))))) else (some p1_0))
def Eu (a0:List (List Parcel)):Option ((List (List Parcel))):=
 (Option.bind (rep? ((List.length a0:Nat):Int) []) fun v2002=>(CA fuel a0 v2002 0))
def Cu:Nat→(List (List Int))→(List (List Int))→Int→Option ((List (List Int)))
 |0,_,_,_=>none
 |n+1,a0,p1_0,p1_1=>(if (decide (p1_1<((List.length a0:Nat):Int)))=true then (Option.bind (at? a0 p1_1) fun v6004=>(Option.bind (BB v6004) fun v6006=>(Option.bind (at? p1_0 p1_1) fun v6007=>(Option.bind (Ah p1_0 p1_1 v6006) fun v6008_12=>(Cu n a0 v6008_12 (IntKind.i64.wrap (p1_1+1))))))) else (some p1_0))
def F5 (a0:List (List Int)):Option ((List (List Int))):=
 (Option.bind (rep? ((List.length a0:Nat):Int) []) fun v2002=>(Cu fuel a0 v2002 0))
def FP (a0:Cluster):Option (Cluster):=
 (Option.bind (Hq a0.grid) fun v2002=>(Option.bind (Eu a0.channels) fun v2005=>(Option.bind (F5 a0.counts) fun v2008=>(Option.bind (BB a0.sent) fun v2011=>(Option.bind (BB a0.got) fun v2014=>(some (⟨v2002,v2005,v2008,v2011,v2014⟩:Cluster)))))))
end Go.Proofs.YtclmbjbbojdojaaGreat.Ab
