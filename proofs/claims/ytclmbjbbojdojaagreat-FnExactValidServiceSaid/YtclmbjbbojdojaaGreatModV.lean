/-
  Models of the functions. Printed by wip/ab/gen.py.
-/
import Derived.Test.YtclmbjbbojdojaaGreatModP
import Derived.Test.YtclmbjbbojdojaaGreatModI
namespace Go.Proofs.YtclmbjbbojdojaaGreat.Ab
set_option linter.unusedVariables false
set_option linter.unusedSimpArgs false
set_option maxRecDepth 20000
set_option maxHeartbeats 4000000
open Go.RowKit
def HH (a0:List Address) (a1:Int):Option (Int):=
 (if (decide ((IntKind.i64.wrap (a1 - (a0.length:Int)))<0))=true then (some (-1)) else (some (IntKind.i64.wrap (a1 - (a0.length:Int)))))
def EX (a0:ShardCell) (a1:Int):Option (Int):=
 ((E3 a0.data a1).bind fun v2003=>(if (decide (v2003<0))=true then (some (-1)) else ((HH a0.aux v2003).bind fun v5003=>(if (decide (v5003<0))=true then (some (-1)) else (some v5003)))))
def CV:Nat→(List ShardCell)→Int→Int→Option (Int)
 |0,_,_,_=>none
 |n+1,a0,p0_0,p0_1=>(if (decide (p0_1<(a0.length:Int)))=true then ((at? a0 p0_1).bind fun v8002=>((EX v8002 p0_0).bind fun v8005=>(if (decide (v8005<0))=true then (some (-1)) else (CV n a0 v8005 (IntKind.i64.wrap (p0_1+1)))))) else (some p0_0))
def Fq (a0:List ShardCell) (a1:Int):Option (Int):=
 (if (decide ((IntKind.i64.wrap (a1 - (a0.length:Int)))<0))=true then (some (-1)) else (CV fuel a0 (IntKind.i64.wrap (a1 - (a0.length:Int))) 0))
def GR (a0:List ShardVar) (a1:Int):Option (Int):=
 (if (decide ((IntKind.i64.wrap (a1 - (a0.length:Int)))<0))=true then (some (-1)) else (some (IntKind.i64.wrap (a1 - (a0.length:Int)))))
def FS (a0:List ShardRedex) (a1:Int):Option (Int):=
 (if (decide ((IntKind.i64.wrap (a1 - (a0.length:Int)))<0))=true then (some (-1)) else (some (IntKind.i64.wrap (a1 - (a0.length:Int)))))
def Iz (a0:Shard) (a1:Int):Option (Int):=
 ((Fq a0.cells a1).bind fun v2003=>(if (decide (v2003<0))=true then (some (-1)) else ((GR a0.vars v2003).bind fun v5003=>(if (decide (v5003<0))=true then (some (-1)) else ((FS a0.redexes v5003).bind fun v8003=>(if (decide (v8003<0))=true then (some (-1)) else (some v8003)))))))
def EY:Nat→(List Shard)→Int→Int→Option (Int)
 |0,_,_,_=>none
 |n+1,a0,p0_0,p0_1=>(if (decide (p0_1<(a0.length:Int)))=true then ((at? a0 p0_1).bind fun v8002=>((Iz v8002 p0_0).bind fun v8005=>(if (decide (v8005<0))=true then (some (-1)) else (EY n a0 v8005 (IntKind.i64.wrap (p0_1+1)))))) else (some p0_0))
def Hp (a0:List Shard) (a1:Int):Option (Int):=
 (if (decide ((IntKind.i64.wrap (a1 - (a0.length:Int)))<0))=true then (some (-1)) else (EY fuel a0 (IntKind.i64.wrap (a1 - (a0.length:Int))) 0))
def Lp (a0:Grid) (a1:Int):Option (Int):=
 ((Hp a0.shards a1).bind fun v2003=>(if (decide (v2003<0))=true then (some (-1)) else (some v2003)))
def Hq (a0:Parcel) (a1:Int):Option (Int):=
 ((EX a0.cell a1).bind fun v2003=>(if (decide (v2003<0))=true then (some (-1)) else (some v2003)))
def Ds:Nat→(List Parcel)→Int→Int→Option (Int)
 |0,_,_,_=>none
 |n+1,a0,p0_0,p0_1=>(if (decide (p0_1<(a0.length:Int)))=true then ((at? a0 p0_1).bind fun v8002=>((Hq v8002 p0_0).bind fun v8005=>(if (decide (v8005<0))=true then (some (-1)) else (Ds n a0 v8005 (IntKind.i64.wrap (p0_1+1)))))) else (some p0_0))
def Gw (a0:List Parcel) (a1:Int):Option (Int):=
 (if (decide ((IntKind.i64.wrap (a1 - (a0.length:Int)))<0))=true then (some (-1)) else (Ds fuel a0 (IntKind.i64.wrap (a1 - (a0.length:Int))) 0))
def DN:Nat→(List (List Parcel))→Int→Int→Option (Int)
 |0,_,_,_=>none
 |n+1,a0,p0_0,p0_1=>(if (decide (p0_1<(a0.length:Int)))=true then ((at? a0 p0_1).bind fun v8002=>((Gw v8002 p0_0).bind fun v8005=>(if (decide (v8005<0))=true then (some (-1)) else (DN n a0 v8005 (IntKind.i64.wrap (p0_1+1)))))) else (some p0_0))
def GF (a0:List (List Parcel)) (a1:Int):Option (Int):=
 (if (decide ((IntKind.i64.wrap (a1 - (a0.length:Int)))<0))=true then (some (-1)) else (DN fuel a0 (IntKind.i64.wrap (a1 - (a0.length:Int))) 0))
def Dt:Nat→(List (List Int))→Int→Int→Option (Int)
 |0,_,_,_=>none
 |n+1,a0,p0_0,p0_1=>(if (decide (p0_1<(a0.length:Int)))=true then ((at? a0 p0_1).bind fun v8002=>((E3 v8002 p0_0).bind fun v8005=>(if (decide (v8005<0))=true then (some (-1)) else (Dt n a0 v8005 (IntKind.i64.wrap (p0_1+1)))))) else (some p0_0))
def Gx (a0:List (List Int)) (a1:Int):Option (Int):=
 (if (decide ((IntKind.i64.wrap (a1 - (a0.length:Int)))<0))=true then (some (-1)) else (Dt fuel a0 (IntKind.i64.wrap (a1 - (a0.length:Int))) 0))
def Gy (a0:Cluster) (a1:Int):Option (Int):=
 ((Lp a0.grid a1).bind fun v2003=>(if (decide (v2003<0))=true then (some (-1)) else ((GF a0.channels v2003).bind fun v5003=>(if (decide (v5003<0))=true then (some (-1)) else ((Gx a0.counts v5003).bind fun v8003=>(if (decide (v8003<0))=true then (some (-1)) else ((E3 a0.sent v8003).bind fun v11003=>(if (decide (v11003<0))=true then (some (-1)) else ((E3 a0.got v11003).bind fun v14003=>(if (decide (v14003<0))=true then (some (-1)) else (some v14003)))))))))))
def I0 (a0:List Bool) (a1:Int):Option (Int):=
 (if (decide ((IntKind.i64.wrap (a1 - (a0.length:Int)))<0))=true then (some (-1)) else (some (IntKind.i64.wrap (a1 - (a0.length:Int)))))
def Lq (a0:Shot) (a1:Int):Option (Int):=
 ((I0 a0.taken a1).bind fun v2003=>(if (decide (v2003<0))=true then (some (-1)) else ((Hp a0.shards v2003).bind fun v5003=>(if (decide (v5003<0))=true then (some (-1)) else ((Gx a0.counts v5003).bind fun v8003=>(if (decide (v8003<0))=true then (some (-1)) else ((I0 a0.recording v8003).bind fun v11003=>(if (decide (v11003<0))=true then (some (-1)) else ((GF a0.saved v11003).bind fun v14003=>(if (decide (v14003<0))=true then (some (-1)) else (some v14003)))))))))))
def ID (a0:Watched) (a1:Int):Option (Int):=
 ((Gy a0.cluster a1).bind fun v2003=>(if (decide (v2003<0))=true then (some (-1)) else ((Lq a0.shot v2003).bind fun v5003=>(if (decide (v5003<0))=true then (some (-1)) else (some v5003)))))
def IE (a0:Service) (a1:Int):Option (Int):=
 ((ID a0.watched a1).bind fun v2003=>(if (decide (v2003<0))=true then (some (-1)) else ((Gy a0.good v2003).bind fun v5003=>(if (decide (v5003<0))=true then (some (-1)) else (some v5003)))))
def Fr (a0:Service):Option (Bool):=
 ((On a0).bind fun v2000=>(some v2000))
def C9 (a0:Address):Option (Address):=
 (some a0)
def DO:Nat→(List Address)→(List Address)→Int→Option ((List Address))
 |0,_,_,_=>none
 |n+1,a0,p1_0,p1_1=>(if (decide (p1_1<(a0.length:Int)))=true then ((at? a0 p1_1).bind fun v6004=>((C9 v6004).bind fun v6006=>((at? p1_0 p1_1).bind fun v6007=>((Hc p1_0 p1_1 v6006).bind fun v6008_12=>(DO n a0 v6008_12 (IntKind.i64.wrap (p1_1+1))))))) else (some p1_0))
def HI (a0:List Address):Option ((List Address)):=
 ((rep? (a0.length:Int) (⟨0,0,0⟩:Address)).bind fun v2002=>(DO fuel a0 v2002 0))
def EZ (a0:ShardCell):Option (ShardCell):=
 ((E4 a0.data).bind fun v6002=>((HI a0.aux).bind fun v7002=>(some (⟨a0.kind,a0.level,a0.value,v6002,v7002⟩:ShardCell))))
def CW:Nat→(List ShardCell)→(List ShardCell)→Int→Option ((List ShardCell))
 |0,_,_,_=>none
 |n+1,a0,p1_0,p1_1=>(if (decide (p1_1<(a0.length:Int)))=true then ((at? a0 p1_1).bind fun v6004=>((EZ v6004).bind fun v6006=>((at? p1_0 p1_1).bind fun v6007=>((Hc p1_0 p1_1 v6006).bind fun v6008_12=>(CW n a0 v6008_12 (IntKind.i64.wrap (p1_1+1))))))) else (some p1_0))
def Fs (a0:List ShardCell):Option ((List ShardCell)):=
 ((rep? (a0.length:Int) (⟨0,0,0,[],[]⟩:ShardCell)).bind fun v2002=>(CW fuel a0 v2002 0))
def HJ (a0:ShardVar):Option (ShardVar):=
 ((C9 a0.held).bind fun v5002=>(some (⟨a0.used,a0.full,v5002⟩:ShardVar)))
def Cp:Nat→(List ShardVar)→(List ShardVar)→Int→Option ((List ShardVar))
 |0,_,_,_=>none
 |n+1,a0,p1_0,p1_1=>(if (decide (p1_1<(a0.length:Int)))=true then ((at? a0 p1_1).bind fun v6004=>((HJ v6004).bind fun v6006=>((at? p1_0 p1_1).bind fun v6007=>((Hc p1_0 p1_1 v6006).bind fun v6008_12=>(Cp n a0 v6008_12 (IntKind.i64.wrap (p1_1+1))))))) else (some p1_0))
def GS (a0:List ShardVar):Option ((List ShardVar)):=
 ((rep? (a0.length:Int) (⟨false,false,(⟨0,0,0⟩:Address)⟩:ShardVar)).bind fun v2002=>(Cp fuel a0 v2002 0))
def Ft (a0:ShardRedex):Option (ShardRedex):=
 ((C9 a0.a).bind fun v3002=>((C9 a0.b).bind fun v4002=>(some (⟨v3002,v4002⟩:ShardRedex))))
def CI:Nat→(List ShardRedex)→(List ShardRedex)→Int→Option ((List ShardRedex))
 |0,_,_,_=>none
 |n+1,a0,p1_0,p1_1=>(if (decide (p1_1<(a0.length:Int)))=true then ((at? a0 p1_1).bind fun v6004=>((Ft v6004).bind fun v6006=>((at? p1_0 p1_1).bind fun v6007=>((Hc p1_0 p1_1 v6006).bind fun v6008_12=>(CI n a0 v6008_12 (IntKind.i64.wrap (p1_1+1))))))) else (some p1_0))
def FT (a0:List ShardRedex):Option ((List ShardRedex)):=
 ((rep? (a0.length:Int) (⟨(⟨0,0,0⟩:Address),(⟨0,0,0⟩:Address)⟩:ShardRedex)).bind fun v2002=>(CI fuel a0 v2002 0))
def I1 (a0:Shard):Option (Shard):=
 ((Fs a0.cells).bind fun v3002=>((GS a0.vars).bind fun v4002=>((FT a0.redexes).bind fun v5002=>(some (⟨v3002,v4002,v5002⟩:Shard)))))
def Ea:Nat→(List Shard)→(List Shard)→Int→Option ((List Shard))
 |0,_,_,_=>none
 |n+1,a0,p1_0,p1_1=>(if (decide (p1_1<(a0.length:Int)))=true then ((at? a0 p1_1).bind fun v6004=>((I1 v6004).bind fun v6006=>((at? p1_0 p1_1).bind fun v6007=>((Hc p1_0 p1_1 v6006).bind fun v6008_12=>(Ea n a0 v6008_12 (IntKind.i64.wrap (p1_1+1))))))) else (some p1_0))
def Hr (a0:List Shard):Option ((List Shard)):=
 ((rep? (a0.length:Int) (⟨[],[],[]⟩:Shard)).bind fun v2002=>(Ea fuel a0 v2002 0))
def Lr (a0:Grid):Option (Grid):=
 ((Hr a0.shards).bind fun v3002=>((C9 a0.root).bind fun v4002=>(some (⟨v3002,v4002⟩:Grid))))
def Hs (a0:Parcel):Option (Parcel):=
 ((EZ a0.cell).bind fun v4002=>((C9 a0.a).bind fun v5002=>((C9 a0.b).bind fun v6002=>(some (⟨a0.kind,v4002,v5002,v6002⟩:Parcel)))))
def Du:Nat→(List Parcel)→(List Parcel)→Int→Option ((List Parcel))
 |0,_,_,_=>none
 |n+1,a0,p1_0,p1_1=>(if (decide (p1_1<(a0.length:Int)))=true then ((at? a0 p1_1).bind fun v6004=>((Hs v6004).bind fun v6006=>((at? p1_0 p1_1).bind fun v6007=>((Hc p1_0 p1_1 v6006).bind fun v6008_12=>(Du n a0 v6008_12 (IntKind.i64.wrap (p1_1+1))))))) else (some p1_0))
def Gz (a0:List Parcel):Option ((List Parcel)):=
 ((rep? (a0.length:Int) (⟨0,(⟨0,0,0,[],[]⟩:ShardCell),(⟨0,0,0⟩:Address),(⟨0,0,0⟩:Address)⟩:Parcel)).bind fun v2002=>(Du fuel a0 v2002 0))
def DP:Nat→(List (List Parcel))→(List (List Parcel))→Int→Option ((List (List Parcel)))
 |0,_,_,_=>none
 |n+1,a0,p1_0,p1_1=>(if (decide (p1_1<(a0.length:Int)))=true then ((at? a0 p1_1).bind fun v6004=>((Gz v6004).bind fun v6006=>((at? p1_0 p1_1).bind fun v6007=>((Hc p1_0 p1_1 v6006).bind fun v6008_12=>(DP n a0 v6008_12 (IntKind.i64.wrap (p1_1+1))))))) else (some p1_0))
def GG (a0:List (List Parcel)):Option ((List (List Parcel))):=
 ((rep? (a0.length:Int) []).bind fun v2002=>(DP fuel a0 v2002 0))
def Dv:Nat→(List (List Int))→(List (List Int))→Int→Option ((List (List Int)))
 |0,_,_,_=>none
 |n+1,a0,p1_0,p1_1=>(if (decide (p1_1<(a0.length:Int)))=true then ((at? a0 p1_1).bind fun v6004=>((E4 v6004).bind fun v6006=>((at? p1_0 p1_1).bind fun v6007=>((Hc p1_0 p1_1 v6006).bind fun v6008_12=>(Dv n a0 v6008_12 (IntKind.i64.wrap (p1_1+1))))))) else (some p1_0))
def G0 (a0:List (List Int)):Option ((List (List Int))):=
 ((rep? (a0.length:Int) []).bind fun v2002=>(Dv fuel a0 v2002 0))
def G1 (a0:Cluster):Option (Cluster):=
 ((Lr a0.grid).bind fun v3002=>((GG a0.channels).bind fun v4002=>((G0 a0.counts).bind fun v5002=>((E4 a0.sent).bind fun v6002=>((E4 a0.got).bind fun v7002=>(some (⟨v3002,v4002,v5002,v6002,v7002⟩:Cluster)))))))
def FG:Nat→(List Bool)→(List Bool)→Int→Option ((List Bool))
 |0,_,_,_=>none
 |n+1,a0,p1_0,p1_1=>(if (decide (p1_1<(a0.length:Int)))=true then ((at? a0 p1_1).bind fun v6004=>((at? p1_0 p1_1).bind fun v6006=>((Hc p1_0 p1_1 v6004).bind fun v6007_12=>(FG n a0 v6007_12 (IntKind.i64.wrap (p1_1+1)))))) else (some p1_0))
def I2 (a0:List Bool):Option ((List Bool)):=
 ((rep? (a0.length:Int) false).bind fun v2002=>(FG fuel a0 v2002 0))
def Ls (a0:Shot):Option (Shot):=
 ((I2 a0.taken).bind fun v3002=>((Hr a0.shards).bind fun v4002=>((G0 a0.counts).bind fun v5002=>((I2 a0.recording).bind fun v6002=>((GG a0.saved).bind fun v7002=>(some (⟨v3002,v4002,v5002,v6002,v7002⟩:Shot)))))))
def IF (a0:Watched):Option (Watched):=
 ((G1 a0.cluster).bind fun v3002=>((Ls a0.shot).bind fun v4002=>(some (⟨v3002,v4002⟩:Watched))))
def E1 (a0:Service):Option (Service):=
 ((IF a0.watched).bind fun v3002=>((G1 a0.good).bind fun v4002=>(some (⟨v3002,v4002,a0.shots,a0.crashes⟩:Service))))
def Ay:Nat→(List (List Parcel))→Int→((List Parcel)→Option Bool)→Option (Int)
 |0,_,_,_=>none
 |n+1,a0,p0_0,f1=>(if (decide (p0_0<(a0.length:Int)))=true then ((at? a0 p0_0).bind fun v5003=>((f1 v5003).bind fun v5005=>(if v5005=true then (some p0_0) else (Ay n a0 (IntKind.i64.wrap (p0_0+1)) f1)))) else (some (-1)))
def D6 (a0:List (List Parcel)) (f1:((List Parcel)→Option Bool)):Option (Int):=
 (Ay fuel a0 0 f1)
def CF (a0:List (List Parcel)) (f1:((List Parcel)→Option Bool)):Option (Bool):=
 ((D6 a0 f1).bind fun v2002=>(some (decide (0≤v2002))))
def Il (a0:Bool):Option (Int):=
 (if a0=true then (some 1) else (some 0))
def EL:Nat→(List Parcel)→Int→Int→Option (Int)
 |0,_,_,_=>none
 |n+1,a0,p0_0,p0_1=>(if (decide (p0_1<(a0.length:Int)))=true then ((at? a0 p0_1).bind fun v5000=>((Il (decide (v5000.kind=4))).bind fun v6004=>(EL n a0 (IntKind.i64.wrap (p0_0+v6004)) (IntKind.i64.wrap (p0_1+1))))) else (some p0_0))
def I3 (a0:List Parcel):Option (Int):=
 (EL fuel a0 0 0)
def Db (a0:List Parcel):Option (Bool):=
 ((I3 a0).bind fun v2001=>(some (decide (0<v2001))))
def CL (a0:Cluster):Option (Bool):=
 ((CF a0.channels (fun y0=>Db y0)).bind fun v2004=>(some v2004))
def Dh (a0:Service):Option (Bool):=
 (some (decide ((IntKind.i64.wrap ((IntKind.i64.wrap ((IntKind.i64.wrap ((IntKind.i64.wrap ((a0.watched.shot.taken.length:Int)+(a0.watched.shot.shards.length:Int)))+(a0.watched.shot.counts.length:Int)))+(a0.watched.shot.recording.length:Int)))+(a0.watched.shot.saved.length:Int)))=0)))
def CM:Nat→(List Bool)→Bool→Int→Option (Int)
 |0,_,_,_=>none
 |n+1,a0,a1,p0_0=>(if (decide (p0_0<(a0.length:Int)))=true then ((at? a0 p0_0).bind fun v5003=>(if (a1 == v5003)=true then (some p0_0) else (CM n a0 a1 (IntKind.i64.wrap (p0_0+1))))) else (some (-1)))
def H2 (a0:List Bool) (a1:Bool):Option (Int):=
 (CM fuel a0 a1 0)
def Cq (a0:List Bool) (a1:Bool):Option (Bool):=
 ((H2 a0 a1).bind fun v2002=>(some (decide (0≤v2002))))
def A5:Nat→(List ShardCell)→(List ShardCell)→Int→(ShardCell→ShardCell→Option Bool)→Option (Bool)
 |0,_,_,_,_=>none
 |n+1,a0,a1,p0_0,f2=>(if (decide (p0_0<(a0.length:Int)))=true then ((at? a0 p0_0).bind fun v6001=>((at? a1 p0_0).bind fun v7002=>((f2 v6001 v7002).bind fun v8003=>(if (!v8003)=true then (some false) else (A5 n a0 a1 (IntKind.i64.wrap (p0_0+1)) f2))))) else (some true))
def Bl (a0:List ShardCell) (a1:List ShardCell) (f2:(ShardCell→ShardCell→Option Bool)):Option (Bool):=
 (if (!decide ((a0.length:Int)=(a1.length:Int)))=true then (some false) else (A5 fuel a0 a1 0 f2))
def BU:Nat→(List ShardVar)→(List ShardVar)→Int→Option (Bool)
 |0,_,_,_=>none
 |n+1,a0,a1,p0_0=>(if (decide (p0_0<(a0.length:Int)))=true then ((at? a0 p0_0).bind fun v7002=>((at? a1 p0_0).bind fun v7006=>(if (!(v7002.used == v7006.used&&(v7002.full == v7006.full&&(decide (v7002.held.machine=v7006.held.machine)&&(decide (v7002.held.kind=v7006.held.kind)&&decide (v7002.held.index=v7006.held.index))))))=true then (some false) else (BU n a0 a1 (IntKind.i64.wrap (p0_0+1)))))) else (some true))
def CX (a0:List ShardVar) (a1:List ShardVar):Option (Bool):=
 (if (!decide ((a0.length:Int)=(a1.length:Int)))=true then (some false) else (BU fuel a0 a1 0))
def BK:Nat→(List ShardRedex)→(List ShardRedex)→Int→Option (Bool)
 |0,_,_,_=>none
 |n+1,a0,a1,p0_0=>(if (decide (p0_0<(a0.length:Int)))=true then ((at? a0 p0_0).bind fun v7002=>((at? a1 p0_0).bind fun v7006=>(if (!(decide (v7002.a.machine=v7006.a.machine)&&(decide (v7002.a.kind=v7006.a.kind)&&(decide (v7002.a.index=v7006.a.index)&&(decide (v7002.b.machine=v7006.b.machine)&&(decide (v7002.b.kind=v7006.b.kind)&&decide (v7002.b.index=v7006.b.index)))))))=true then (some false) else (BK n a0 a1 (IntKind.i64.wrap (p0_0+1)))))) else (some true))
def CC (a0:List ShardRedex) (a1:List ShardRedex):Option (Bool):=
 (if (!decide ((a0.length:Int)=(a1.length:Int)))=true then (some false) else (BK fuel a0 a1 0))
def IG (a0:Shard) (a1:Shard):Option (Bool):=
 ((Bl a0.cells a1.cells (fun y0 y1=>Ce y0 y1)).bind fun v2004=>(if v2004=true then ((CX a0.vars a1.vars).bind fun v2010=>(if v2010=true then ((CC a0.redexes a1.redexes).bind fun v2017=>(some v2017)) else (some false))) else (some false)))
def Di (a0:Shot) (a1:Int):Option (Bool):=
 ((at? a0.taken a1).bind fun v2005=>(if (!v2005)=true then ((at? a0.shards a1).bind fun v3005=>((IG v3005 (⟨[],[],[]⟩:Shard)).bind fun v3008=>(if v3008=true then ((at? a0.counts a1).bind fun v3015=>(some (decide ((v3015.length:Int)=0)))) else (some false)))) else ((at? a0.shards a1).bind fun v4005=>((F8 v4005).bind fun v4007=>(if v4007=true then ((at? a0.counts a1).bind fun v4014=>((CS v4014).bind fun v4016=>(some v4016))) else (some false))))))
def B0 (a0:Watched) (a3:Int) (v8026:Int):Option (Bool):=
 ((at? a0.cluster.channels a3).bind fun v9006=>((I3 v9006).bind fun v9008=>(if (decide (v9008=v8026))=true then ((at? a0.shot.saved a3).bind fun v9017=>((I3 v9017).bind fun v9019=>(some (decide (v9019=0))))) else (some false))))
def Ao (a0:Watched) (a1:Int) (a2:Int) (a3:Int) (p1_0:Bool):Option (Bool):=
 (if p1_0=true then (some false) else ((at? a0.shot.taken a1).bind fun v8005=>(if v8005=true then ((at? a0.shot.taken a2).bind fun v8013=>(if (!v8013)=true then ((Il true).bind fun v8026=>(B0 a0 a3 v8026)) else ((at? a0.shot.recording a3).bind fun v8022=>((Il v8022).bind fun v8026=>(B0 a0 a3 v8026))))) else ((Il false).bind fun v8026=>(B0 a0 a3 v8026)))))
def CY (a0:Watched) (a1:Int) (a2:Int) (a3:Int) (p0_0:Bool):Option (Bool):=
 (if (decide (a1=a2))=true then (some p0_0) else ((at? a0.shot.taken a2).bind fun v6005=>(if (!v6005)=true then (if (!p0_0)=true then (Ao a0 a1 a2 a3 true) else ((at? a0.shot.taken a2).bind fun v6018=>(if v6018=true then ((at? a0.shot.recording a3).bind fun v6026=>(if (!v6026)=true then ((at? a0.shot.taken a1).bind fun v6036=>(Ao a0 a1 a2 a3 (!v6036))) else (Ao a0 a1 a2 a3 false))) else (Ao a0 a1 a2 a3 false)))) else ((at? a0.shot.taken a2).bind fun v6018=>(if v6018=true then ((at? a0.shot.recording a3).bind fun v6026=>(if (!v6026)=true then ((at? a0.shot.taken a1).bind fun v6036=>(Ao a0 a1 a2 a3 (!v6036))) else (Ao a0 a1 a2 a3 false))) else (Ao a0 a1 a2 a3 false))))))
def Cb (a0:Watched) (a1:Int) (a2:Int) (a3:Int):Option (Bool):=
 ((at? a0.shot.recording a3).bind fun v3005=>(if (!v3005)=true then ((at? a0.shot.saved a3).bind fun v3014=>(CY a0 a1 a2 a3 (decide ((v3014.length:Int)=0)))) else (CY a0 a1 a2 a3 false)))
def Au:Nat→Watched→Int→Int→Option (Bool)
 |0,_,_,_=>none
 |n+1,a0,v4003,p4_0=>(if (decide (p4_0<(IntKind.i64.wrap (v4003*v4003))))=true then ((nz? v4003).bind fun v16002=>((nz? v4003).bind fun v16005=>((Cb a0 (IntKind.i64.wrap (Int.tdiv p4_0 v4003)) (Int.tmod p4_0 v4003) p4_0).bind fun v16007=>(if (!v16007)=true then (some false) else (Au n a0 v4003 (IntKind.i64.wrap (p4_0+1))))))) else (some true))
def BC:Nat→Watched→Int→Int→Option (Bool)
 |0,_,_,_=>none
 |n+1,a0,v4003,p2_0=>(if (decide (p2_0<v4003))=true then ((Di a0.shot p2_0).bind fun v10001=>(if (!v10001)=true then (some false) else (BC n a0 v4003 (IntKind.i64.wrap (p2_0+1))))) else (Au fuel a0 v4003 0))
def BD (a0:Watched) (v4003:Int) (p0_0:Bool):Option (Bool):=
 (if p0_0=true then (some false) else (BC fuel a0 v4003 0))
def Fu (a0:Watched):Option (Bool):=
 ((Dr a0.cluster).bind fun v2002=>(if (!v2002)=true then (some false) else ((BX a0.cluster).bind fun v4003=>(if (!decide ((a0.shot.taken.length:Int)=v4003))=true then (BD a0 v4003 true) else (if (!decide ((a0.shot.shards.length:Int)=v4003))=true then (BD a0 v4003 true) else (if (!decide ((a0.shot.counts.length:Int)=v4003))=true then (BD a0 v4003 true) else (if (!decide ((a0.shot.recording.length:Int)=(IntKind.i64.wrap (v4003*v4003))))=true then (BD a0 v4003 true) else ((EA a0.shot.saved v4003).bind fun v5032=>(if (!v5032)=true then (BD a0 v4003 true) else ((Cq a0.shot.taken true).bind fun v5038=>(BD a0 v4003 (!v5038))))))))))))
def GT (a0:Shot):Option (Bool):=
 ((Cq a0.taken false).bind fun v2004=>(if (!v2004)=true then ((Cq a0.recording true).bind fun v2011=>(some (!v2011))) else (some false)))
def Eg (a0:Service):Option (Bool):=
 ((Dh a0).bind fun v2001=>(if v2001=true then ((Dr a0.watched.cluster).bind fun v3005=>(if v3005=true then ((CL a0.watched.cluster).bind fun v3011=>(some (!v3011))) else (some false))) else ((Fu a0.watched).bind fun v4004=>(if v4004=true then ((GT a0.watched.shot).bind fun v4010=>(some (!v4010))) else (some false)))))
def Et (a0:Service):Option (Bool):=
 ((Eg a0).bind fun v2000=>(if v2000=true then ((Dr a0.good).bind fun v2004=>(if v2004=true then ((CL a0.good).bind fun v2008=>(if (!v2008)=true then ((BX a0.good).bind fun v2013=>((BX a0.watched.cluster).bind fun v2016=>(if (decide (v2013=v2016))=true then (if (decide (a0.good.grid.root.machine=a0.watched.cluster.grid.root.machine)&&(decide (a0.good.grid.root.kind=a0.watched.cluster.grid.root.kind)&&decide (a0.good.grid.root.index=a0.watched.cluster.grid.root.index)))=true then ((IA 1000000000 [a0.shots,a0.crashes]).bind fun v2037=>(some v2037)) else (some false)) else (some false)))) else (some false))) else (some false))) else (some false)))
def D1 (a0:Service):Option (Bool):=
 ((IE a0 1048576).bind fun v3002=>(if (decide (v3002<0))=true then (some true) else ((E1 a0).bind fun v6001=>((Fr v6001).bind fun v6002=>((E1 a0).bind fun v7001=>((Et v7001).bind fun v8001=>(if (!(v8001 == v6002))=true then (some false) else ((E1 a0).bind fun v11002=>((G2 v7001 v11002).bind fun v11003=>(if (!v11003)=true then (some false) else (some true)))))))))))
end Go.Proofs.YtclmbjbbojdojaaGreat.Ab
