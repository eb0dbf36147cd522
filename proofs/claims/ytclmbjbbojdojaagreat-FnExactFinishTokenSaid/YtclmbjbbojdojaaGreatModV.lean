/-
  Models of the functions. Printed by wip/ab/gen.py.
-/
import Derived.Test.YtclmbjbbojdojaaGreatModP
import Derived.Test.YtclmbjbbojdojaaGreatModI
namespace Go.Proofs.YtclmbjbbojdojaaGreat.Ab
set_option linter.unusedVariables false
set_option linter.unusedSimpArgs false
set_option maxRecDepth 20000
set_option maxHeartbeats 4000000
open Go.RowKit
def IF (a0:List Address) (a1:Int):Option (Int):=
 (if (decide ((IntKind.i64.wrap (a1 - (a0.length:Int)))<0))=true then (some (-1)) else (some (IntKind.i64.wrap (a1 - (a0.length:Int)))))
def FG (a0:ShardCell) (a1:Int):Option (Int):=
 ((Ft a0.data a1).bind fun v2003=>(if (decide (v2003<0))=true then (some (-1)) else ((IF a0.aux v2003).bind fun v5003=>(if (decide (v5003<0))=true then (some (-1)) else (some v5003)))))
def Cz:Nat→(List ShardCell)→Int→Int→Option (Int)
 |0,_,_,_=>none
 |n+1,a0,p0_0,p0_1=>(if (decide (p0_1<(a0.length:Int)))=true then ((at? a0 p0_1).bind fun v8002=>((FG v8002 p0_0).bind fun v8005=>(if (decide (v8005<0))=true then (some (-1)) else (Cz n a0 v8005 (IntKind.i64.wrap (p0_1+1)))))) else (some p0_0))
def Gl (a0:List ShardCell) (a1:Int):Option (Int):=
 (if (decide ((IntKind.i64.wrap (a1 - (a0.length:Int)))<0))=true then (some (-1)) else (Cz fuel a0 (IntKind.i64.wrap (a1 - (a0.length:Int))) 0))
def HL (a0:List ShardVar) (a1:Int):Option (Int):=
 (if (decide ((IntKind.i64.wrap (a1 - (a0.length:Int)))<0))=true then (some (-1)) else (some (IntKind.i64.wrap (a1 - (a0.length:Int)))))
def GG (a0:List ShardRedex) (a1:Int):Option (Int):=
 (if (decide ((IntKind.i64.wrap (a1 - (a0.length:Int)))<0))=true then (some (-1)) else (some (IntKind.i64.wrap (a1 - (a0.length:Int)))))
def Jt (a0:Shard) (a1:Int):Option (Int):=
 ((Gl a0.cells a1).bind fun v2003=>(if (decide (v2003<0))=true then (some (-1)) else ((HL a0.vars v2003).bind fun v5003=>(if (decide (v5003<0))=true then (some (-1)) else ((GG a0.redexes v5003).bind fun v8003=>(if (decide (v8003<0))=true then (some (-1)) else (some v8003)))))))
def FH:Nat→(List Shard)→Int→Int→Option (Int)
 |0,_,_,_=>none
 |n+1,a0,p0_0,p0_1=>(if (decide (p0_1<(a0.length:Int)))=true then ((at? a0 p0_1).bind fun v8002=>((Jt v8002 p0_0).bind fun v8005=>(if (decide (v8005<0))=true then (some (-1)) else (FH n a0 v8005 (IntKind.i64.wrap (p0_1+1)))))) else (some p0_0))
def KP (a0:List Shard) (a1:Int):Option (Int):=
 (if (decide ((IntKind.i64.wrap (a1 - (a0.length:Int)))<0))=true then (some (-1)) else (FH fuel a0 (IntKind.i64.wrap (a1 - (a0.length:Int))) 0))
def NL (a0:Grid) (a1:Int):Option (Int):=
 ((KP a0.shards a1).bind fun v2003=>(if (decide (v2003<0))=true then (some (-1)) else (some v2003)))
def Ip (a0:Parcel) (a1:Int):Option (Int):=
 ((FG a0.cell a1).bind fun v2003=>(if (decide (v2003<0))=true then (some (-1)) else (some v2003)))
def EX:Nat→(List Parcel)→Int→Int→Option (Int)
 |0,_,_,_=>none
 |n+1,a0,p0_0,p0_1=>(if (decide (p0_1<(a0.length:Int)))=true then ((at? a0 p0_1).bind fun v8002=>((Ip v8002 p0_0).bind fun v8005=>(if (decide (v8005<0))=true then (some (-1)) else (EX n a0 v8005 (IntKind.i64.wrap (p0_1+1)))))) else (some p0_0))
def Hu (a0:List Parcel) (a1:Int):Option (Int):=
 (if (decide ((IntKind.i64.wrap (a1 - (a0.length:Int)))<0))=true then (some (-1)) else (EX fuel a0 (IntKind.i64.wrap (a1 - (a0.length:Int))) 0))
def Dz:Nat→(List (List Parcel))→Int→Int→Option (Int)
 |0,_,_,_=>none
 |n+1,a0,p0_0,p0_1=>(if (decide (p0_1<(a0.length:Int)))=true then ((at? a0 p0_1).bind fun v8002=>((Hu v8002 p0_0).bind fun v8005=>(if (decide (v8005<0))=true then (some (-1)) else (Dz n a0 v8005 (IntKind.i64.wrap (p0_1+1)))))) else (some p0_0))
def IG (a0:List (List Parcel)) (a1:Int):Option (Int):=
 (if (decide ((IntKind.i64.wrap (a1 - (a0.length:Int)))<0))=true then (some (-1)) else (Dz fuel a0 (IntKind.i64.wrap (a1 - (a0.length:Int))) 0))
def EY:Nat→(List (List Int))→Int→Int→Option (Int)
 |0,_,_,_=>none
 |n+1,a0,p0_0,p0_1=>(if (decide (p0_1<(a0.length:Int)))=true then ((at? a0 p0_1).bind fun v8002=>((Ft v8002 p0_0).bind fun v8005=>(if (decide (v8005<0))=true then (some (-1)) else (EY n a0 v8005 (IntKind.i64.wrap (p0_1+1)))))) else (some p0_0))
def JI (a0:List (List Int)) (a1:Int):Option (Int):=
 (if (decide ((IntKind.i64.wrap (a1 - (a0.length:Int)))<0))=true then (some (-1)) else (EY fuel a0 (IntKind.i64.wrap (a1 - (a0.length:Int))) 0))
def I6 (a0:Cluster) (a1:Int):Option (Int):=
 ((NL a0.grid a1).bind fun v2003=>(if (decide (v2003<0))=true then (some (-1)) else ((IG a0.channels v2003).bind fun v5003=>(if (decide (v5003<0))=true then (some (-1)) else ((JI a0.counts v5003).bind fun v8003=>(if (decide (v8003<0))=true then (some (-1)) else ((Ft a0.sent v8003).bind fun v11003=>(if (decide (v11003<0))=true then (some (-1)) else ((Ft a0.got v11003).bind fun v14003=>(if (decide (v14003<0))=true then (some (-1)) else (some v14003)))))))))))
def LZ (a0:List Bool) (a1:Int):Option (Int):=
 (if (decide ((IntKind.i64.wrap (a1 - (a0.length:Int)))<0))=true then (some (-1)) else (some (IntKind.i64.wrap (a1 - (a0.length:Int)))))
def Di (a0:Address):Option (Address):=
 (some a0)
def D0:Nat→(List Address)→(List Address)→Int→Option ((List Address))
 |0,_,_,_=>none
 |n+1,a0,p1_0,p1_1=>(if (decide (p1_1<(a0.length:Int)))=true then ((at? a0 p1_1).bind fun v6004=>((Di v6004).bind fun v6006=>((at? p1_0 p1_1).bind fun v6007=>((A4 p1_0 p1_1 v6006).bind fun v6008_12=>(D0 n a0 v6008_12 (IntKind.i64.wrap (p1_1+1))))))) else (some p1_0))
def II (a0:List Address):Option ((List Address)):=
 ((rep? (a0.length:Int) (⟨0,0,0⟩:Address)).bind fun v2002=>(D0 fuel a0 v2002 0))
def FI (a0:ShardCell):Option (ShardCell):=
 ((Fu a0.data).bind fun v6002=>((II a0.aux).bind fun v7002=>(some (⟨a0.kind,a0.level,a0.value,v6002,v7002⟩:ShardCell))))
def C0:Nat→(List ShardCell)→(List ShardCell)→Int→Option ((List ShardCell))
 |0,_,_,_=>none
 |n+1,a0,p1_0,p1_1=>(if (decide (p1_1<(a0.length:Int)))=true then ((at? a0 p1_1).bind fun v6004=>((FI v6004).bind fun v6006=>((at? p1_0 p1_1).bind fun v6007=>((A4 p1_0 p1_1 v6006).bind fun v6008_12=>(C0 n a0 v6008_12 (IntKind.i64.wrap (p1_1+1))))))) else (some p1_0))
def Gm (a0:List ShardCell):Option ((List ShardCell)):=
 ((rep? (a0.length:Int) (⟨0,0,0,[],[]⟩:ShardCell)).bind fun v2002=>(C0 fuel a0 v2002 0))
def IJ (a0:ShardVar):Option (ShardVar):=
 ((Di a0.held).bind fun v5002=>(some (⟨a0.used,a0.full,v5002⟩:ShardVar)))
def DL:Nat→(List ShardVar)→(List ShardVar)→Int→Option ((List ShardVar))
 |0,_,_,_=>none
 |n+1,a0,p1_0,p1_1=>(if (decide (p1_1<(a0.length:Int)))=true then ((at? a0 p1_1).bind fun v6004=>((IJ v6004).bind fun v6006=>((at? p1_0 p1_1).bind fun v6007=>((A4 p1_0 p1_1 v6006).bind fun v6008_12=>(DL n a0 v6008_12 (IntKind.i64.wrap (p1_1+1))))))) else (some p1_0))
def HM (a0:List ShardVar):Option ((List ShardVar)):=
 ((rep? (a0.length:Int) (⟨false,false,(⟨0,0,0⟩:Address)⟩:ShardVar)).bind fun v2002=>(DL fuel a0 v2002 0))
def Gn (a0:ShardRedex):Option (ShardRedex):=
 ((Di a0.a).bind fun v3002=>((Di a0.b).bind fun v4002=>(some (⟨v3002,v4002⟩:ShardRedex))))
def Cg:Nat→(List ShardRedex)→(List ShardRedex)→Int→Option ((List ShardRedex))
 |0,_,_,_=>none
 |n+1,a0,p1_0,p1_1=>(if (decide (p1_1<(a0.length:Int)))=true then ((at? a0 p1_1).bind fun v6004=>((Gn v6004).bind fun v6006=>((at? p1_0 p1_1).bind fun v6007=>((A4 p1_0 p1_1 v6006).bind fun v6008_12=>(Cg n a0 v6008_12 (IntKind.i64.wrap (p1_1+1))))))) else (some p1_0))
def GH (a0:List ShardRedex):Option ((List ShardRedex)):=
 ((rep? (a0.length:Int) (⟨(⟨0,0,0⟩:Address),(⟨0,0,0⟩:Address)⟩:ShardRedex)).bind fun v2002=>(Cg fuel a0 v2002 0))
def Ju (a0:Shard):Option (Shard):=
 ((Gm a0.cells).bind fun v3002=>((HM a0.vars).bind fun v4002=>((GH a0.redexes).bind fun v5002=>(some (⟨v3002,v4002,v5002⟩:Shard)))))
def FJ:Nat→(List Shard)→(List Shard)→Int→Option ((List Shard))
 |0,_,_,_=>none
 |n+1,a0,p1_0,p1_1=>(if (decide (p1_1<(a0.length:Int)))=true then ((at? a0 p1_1).bind fun v6004=>((Ju v6004).bind fun v6006=>((at? p1_0 p1_1).bind fun v6007=>((A4 p1_0 p1_1 v6006).bind fun v6008_12=>(FJ n a0 v6008_12 (IntKind.i64.wrap (p1_1+1))))))) else (some p1_0))
def KQ (a0:List Shard):Option ((List Shard)):=
 ((rep? (a0.length:Int) (⟨[],[],[]⟩:Shard)).bind fun v2002=>(FJ fuel a0 v2002 0))
def NM (a0:Grid):Option (Grid):=
 ((KQ a0.shards).bind fun v3002=>((Di a0.root).bind fun v4002=>(some (⟨v3002,v4002⟩:Grid))))
def Iq (a0:Parcel):Option (Parcel):=
 ((FI a0.cell).bind fun v4002=>((Di a0.a).bind fun v5002=>((Di a0.b).bind fun v6002=>(some (⟨a0.kind,v4002,v5002,v6002⟩:Parcel)))))
def EZ:Nat→(List Parcel)→(List Parcel)→Int→Option ((List Parcel))
 |0,_,_,_=>none
 |n+1,a0,p1_0,p1_1=>(if (decide (p1_1<(a0.length:Int)))=true then ((at? a0 p1_1).bind fun v6004=>((Iq v6004).bind fun v6006=>((at? p1_0 p1_1).bind fun v6007=>((A4 p1_0 p1_1 v6006).bind fun v6008_12=>(EZ n a0 v6008_12 (IntKind.i64.wrap (p1_1+1))))))) else (some p1_0))
def Hv (a0:List Parcel):Option ((List Parcel)):=
 ((rep? (a0.length:Int) (⟨0,(⟨0,0,0,[],[]⟩:ShardCell),(⟨0,0,0⟩:Address),(⟨0,0,0⟩:Address)⟩:Parcel)).bind fun v2002=>(EZ fuel a0 v2002 0))
def D1:Nat→(List (List Parcel))→(List (List Parcel))→Int→Option ((List (List Parcel)))
 |0,_,_,_=>none
 |n+1,a0,p1_0,p1_1=>(if (decide (p1_1<(a0.length:Int)))=true then ((at? a0 p1_1).bind fun v6004=>((Hv v6004).bind fun v6006=>((at? p1_0 p1_1).bind fun v6007=>((A4 p1_0 p1_1 v6006).bind fun v6008_12=>(D1 n a0 v6008_12 (IntKind.i64.wrap (p1_1+1))))))) else (some p1_0))
def IK (a0:List (List Parcel)):Option ((List (List Parcel))):=
 ((rep? (a0.length:Int) []).bind fun v2002=>(D1 fuel a0 v2002 0))
def Ea:Nat→(List (List Int))→(List (List Int))→Int→Option ((List (List Int)))
 |0,_,_,_=>none
 |n+1,a0,p1_0,p1_1=>(if (decide (p1_1<(a0.length:Int)))=true then ((at? a0 p1_1).bind fun v6004=>((Fu v6004).bind fun v6006=>((at? p1_0 p1_1).bind fun v6007=>((A4 p1_0 p1_1 v6006).bind fun v6008_12=>(Ea n a0 v6008_12 (IntKind.i64.wrap (p1_1+1))))))) else (some p1_0))
def JJ (a0:List (List Int)):Option ((List (List Int))):=
 ((rep? (a0.length:Int) []).bind fun v2002=>(Ea fuel a0 v2002 0))
def I8 (a0:Cluster):Option (Cluster):=
 ((NM a0.grid).bind fun v3002=>((IK a0.channels).bind fun v4002=>((JJ a0.counts).bind fun v5002=>((Fu a0.sent).bind fun v6002=>((Fu a0.got).bind fun v7002=>(some (⟨v3002,v4002,v5002,v6002,v7002⟩:Cluster)))))))
def F6:Nat→(List Bool)→(List Bool)→Int→Option ((List Bool))
 |0,_,_,_=>none
 |n+1,a0,p1_0,p1_1=>(if (decide (p1_1<(a0.length:Int)))=true then ((at? a0 p1_1).bind fun v6004=>((at? p1_0 p1_1).bind fun v6006=>((A4 p1_0 p1_1 v6004).bind fun v6007_12=>(F6 n a0 v6007_12 (IntKind.i64.wrap (p1_1+1)))))) else (some p1_0))
def Lb (a0:List Bool):Option ((List Bool)):=
 ((rep? (a0.length:Int) false).bind fun v2002=>(F6 fuel a0 v2002 0))
def A1:Nat→(List (List Parcel))→Int→((List Parcel)→Option Bool)→Option (Int)
 |0,_,_,_=>none
 |n+1,a0,p0_0,f1=>(if (decide (p0_0<(a0.length:Int)))=true then ((at? a0 p0_0).bind fun v5003=>((f1 v5003).bind fun v5005=>(if v5005=true then (some p0_0) else (A1 n a0 (IntKind.i64.wrap (p0_0+1)) f1)))) else (some (-1)))
def Ej (a0:List (List Parcel)) (f1:((List Parcel)→Option Bool)):Option (Int):=
 (A1 fuel a0 0 f1)
def Ca (a0:List (List Parcel)) (f1:((List Parcel)→Option Bool)):Option (Bool):=
 ((Ej a0 f1).bind fun v2002=>(some (decide (0≤v2002))))
def Qc (a0:Bool):Option (Int):=
 (if a0=true then (some 1) else (some 0))
def E1:Nat→(List Parcel)→Int→Int→Option (Int)
 |0,_,_,_=>none
 |n+1,a0,p0_0,p0_1=>(if (decide (p0_1<(a0.length:Int)))=true then ((at? a0 p0_1).bind fun v5000=>((Qc (decide (v5000.kind=4))).bind fun v6004=>(E1 n a0 (IntKind.i64.wrap (p0_0+v6004)) (IntKind.i64.wrap (p0_1+1))))) else (some p0_0))
def Lc (a0:List Parcel):Option (Int):=
 (E1 fuel a0 0 0)
def ED (a0:List Parcel):Option (Bool):=
 ((Lc a0).bind fun v2001=>(some (decide (0<v2001))))
def Dc (a0:Cluster):Option (Bool):=
 ((Ca a0.channels (fun y0=>ED y0)).bind fun v2004=>(some v2004))
end Go.Proofs.YtclmbjbbojdojaaGreat.Ab
