/-
  Models of the functions. Printed by wip/ab/gen.py.
-/
import Derived.Test.YtclmbjbbojdojaaGreatModG
namespace Go.Proofs.YtclmbjbbojdojaaGreat.Ab
set_option linter.unusedVariables false
set_option linter.unusedSimpArgs false
set_option maxRecDepth 20000
set_option maxHeartbeats 4000000
open Go.RowKit
def Hm (a0:Service):Option (Bool):=
 (if (decide ((a0.watched.shot.taken.length:Int)=0))=true then (if (decide ((a0.watched.shot.shards.length:Int)=0))=true then (if (decide ((a0.watched.shot.counts.length:Int)=0))=true then (if (decide ((a0.watched.shot.recording.length:Int)=0))=true then (some (decide ((a0.watched.shot.saved.length:Int)=0))) else (some false)) else (some false)) else (some false)) else (some false))
def EC (a0:Bool):Option (Int):=
 (if a0=true then (some 1) else (some 0))
def Cf:Nat→(List Parcel)→Int→Int→Option (Int)
 |0,_,_,_=>none
 |n+1,a0,p0_0,p0_1=>(if (decide (p0_1<(a0.length:Int)))=true then ((at? a0 p0_1).bind fun v6003=>((EC (decide (v6003.kind=4))).bind fun v6007=>(Cf n a0 (IntKind.i64.wrap (p0_0+v6007)) (IntKind.i64.wrap (p0_1+1))))) else (some p0_0))
def E8 (a0:List Parcel):Option (Int):=
 (Cf fuel a0 0 0)
def EK:Nat→Cluster→Int→Option (Bool)
 |0,_,_=>none
 |n+1,a0,p0_0=>(if (decide (p0_0<(a0.channels.length:Int)))=true then ((at? a0.channels p0_0).bind fun v7005=>((E8 v7005).bind fun v7007=>(if (decide (0<v7007))=true then (some false) else (EK n a0 (IntKind.i64.wrap (p0_0+1)))))) else (some true))
def Iw (a0:Cluster):Option (Bool):=
 ((MZ a0).bind fun v2001=>(if (!v2001)=true then (some false) else (EK fuel a0 0)))
def Eo:Nat→Shard→Shard→Int→Option (Bool)
 |0,_,_,_=>none
 |n+1,a0,a1,p6_0=>(if (decide (p6_0<(a0.redexes.length:Int)))=true then ((at? a0.redexes p6_0).bind fun v17003=>((at? a1.redexes p6_0).bind fun v17008=>(if (!(decide (v17003.a.machine=v17008.a.machine)&&(decide (v17003.a.kind=v17008.a.kind)&&(decide (v17003.a.index=v17008.a.index)&&(decide (v17003.b.machine=v17008.b.machine)&&(decide (v17003.b.kind=v17008.b.kind)&&decide (v17003.b.index=v17008.b.index)))))))=true then (some false) else (Eo n a0 a1 (IntKind.i64.wrap (p6_0+1)))))) else (some true))
def Ep:Nat→Shard→Shard→Int→Option (Bool)
 |0,_,_,_=>none
 |n+1,a0,a1,p4_0=>(if (decide (p4_0<(a0.vars.length:Int)))=true then ((at? a0.vars p4_0).bind fun v12003=>((at? a1.vars p4_0).bind fun v12008=>(if (!(v12003.used == v12008.used&&(v12003.full == v12008.full&&(decide (v12003.held.machine=v12008.held.machine)&&(decide (v12003.held.kind=v12008.held.kind)&&decide (v12003.held.index=v12008.held.index))))))=true then (some false) else (Ep n a0 a1 (IntKind.i64.wrap (p4_0+1)))))) else (Eo fuel a0 a1 0))
def Er:Nat→Shard→Shard→Int→Option (Bool)
 |0,_,_,_=>none
 |n+1,a0,a1,p2_0=>(if (decide (p2_0<(a0.cells.length:Int)))=true then ((at? a0.cells p2_0).bind fun v7003=>((at? a1.cells p2_0).bind fun v7007=>((FX v7003 v7007).bind fun v7008=>(if (!v7008)=true then (some false) else (Er n a0 a1 (IntKind.i64.wrap (p2_0+1))))))) else (Ep fuel a0 a1 0))
def Es (a0:Shard) (a1:Shard) (p0_0:Bool):Option (Bool):=
 (if p0_0=true then (some false) else (Er fuel a0 a1 0))
def IB (a0:Shard) (a1:Shard):Option (Bool):=
 (if (!decide ((a0.cells.length:Int)=(a1.cells.length:Int)))=true then (Es a0 a1 true) else (if (!decide ((a0.vars.length:Int)=(a1.vars.length:Int)))=true then (Es a0 a1 true) else (Es a0 a1 (!decide ((a0.redexes.length:Int)=(a1.redexes.length:Int))))))
def GA (a0:Shot) (a1:Int):Option (Bool):=
 ((at? a0.taken a1).bind fun v2005=>(if v2005=true then ((at? a0.shards a1).bind fun v3005=>((Fo (⟨[v3005],(⟨0,0,0⟩:Address)⟩:Grid)).bind fun v4000=>(if v4000=true then ((at? a0.counts a1).bind fun v4007=>((DX v4007 7).bind fun v4009=>(some v4009))) else (some false)))) else ((at? a0.shards a1).bind fun v6005=>((IB v6005 (⟨[],[],[]⟩:Shard)).bind fun v6008=>(if v6008=true then ((at? a0.counts a1).bind fun v6015=>(some (decide ((v6015.length:Int)=0)))) else (some false))))))
def Bd:Nat→Watched→Int→Int→Int→Int→Option (Bool)
 |0,_,_,_,_,_=>none
 |n+1,a0,a1,a2,a3,p5_0=>((at? a0.shot.saved (IntKind.i64.wrap ((IntKind.i64.wrap (a1*a3))+a2))).bind fun v12006=>(if (decide (p5_0<(v12006.length:Int)))=true then ((at? a0.shot.saved (IntKind.i64.wrap ((IntKind.i64.wrap (a1*a3))+a2))).bind fun v14005=>((at? v14005 p5_0).bind fun v14008=>((Gt v14008 a2).bind fun v14010=>(if (!v14010)=true then (some false) else (Bd n a0 a1 a2 a3 (IntKind.i64.wrap (p5_0+1))))))) else (if (decide (a1=a2))=true then (some true) else ((at? a0.cluster.channels (IntKind.i64.wrap ((IntKind.i64.wrap (a1*a3))+a2))).bind fun v16010=>((E8 v16010).bind fun v16012=>((at? a0.shot.taken a1).bind fun v16018=>(if v16018=true then ((at? a0.shot.taken a2).bind fun v16026=>(if (!v16026)=true then ((EC true).bind fun v16039=>(some (decide (v16012=v16039)))) else ((at? a0.shot.recording (IntKind.i64.wrap ((IntKind.i64.wrap (a1*a3))+a2))).bind fun v16035=>((EC v16035).bind fun v16039=>(some (decide (v16012=v16039))))))) else ((EC false).bind fun v16039=>(some (decide (v16012=v16039)))))))))))
def FM (a0:Watched) (a1:Int) (a2:Int) (a3:Int) (p4_0:Bool):Option (Bool):=
 (if p4_0=true then (some false) else (Bd fuel a0 a1 a2 a3 0))
def FN (a0:Watched) (a1:Int) (a2:Int) (a3:Int):Option (Bool):=
 ((at? a0.shot.saved (IntKind.i64.wrap ((IntKind.i64.wrap (a1*a3))+a2))).bind fun v9005=>(if (decide (200<(v9005.length:Int)))=true then (FM a0 a1 a2 a3 true) else ((at? a0.shot.saved (IntKind.i64.wrap ((IntKind.i64.wrap (a1*a3))+a2))).bind fun v9015=>((E8 v9015).bind fun v9017=>(FM a0 a1 a2 a3 (decide (0<v9017)))))))
def FO (a0:Watched) (a1:Int) (a2:Int) (a3:Int) (p1_0:Bool):Option (Bool):=
 (if p1_0=true then (some false) else (FN a0 a1 a2 a3))
def FP (a0:Watched) (a1:Int) (a2:Int) (a3:Int) (p2_0:Bool):Option (Bool):=
 (if p2_0=true then (some false) else (FN a0 a1 a2 a3))
def FQ (a0:Watched) (a1:Int) (a2:Int) (a3:Int) (p0_0:Bool):Option (Bool):=
 (if p0_0=true then ((at? a0.shot.recording (IntKind.i64.wrap ((IntKind.i64.wrap (a1*a3))+a2))).bind fun v5005=>(if v5005=true then (FO a0 a1 a2 a3 true) else ((at? a0.shot.saved (IntKind.i64.wrap ((IntKind.i64.wrap (a1*a3))+a2))).bind fun v5013=>(FO a0 a1 a2 a3 (decide (0<(v5013.length:Int))))))) else ((at? a0.shot.recording (IntKind.i64.wrap ((IntKind.i64.wrap (a1*a3))+a2))).bind fun v7005=>(if (!v7005)=true then ((at? a0.shot.taken a1).bind fun v7014=>(FP a0 a1 a2 a3 (!v7014))) else (FP a0 a1 a2 a3 false))))
def GB (a0:Watched) (a1:Int) (a2:Int) (a3:Int):Option (Bool):=
 (if (decide (a1=a2))=true then (FQ a0 a1 a2 a3 true) else ((at? a0.shot.taken a2).bind fun v4009=>(FQ a0 a1 a2 a3 (!v4009))))
mutual
def CU:Nat→Watched→Bool→Int→Option (Bool)
 |0,_,_,_=>none
 |n+1,a0,p1_0,p3_0=>(if (decide (p3_0<(a0.cluster.grid.shards.length:Int)))=true then (EW n a0 p1_0 p3_0 0) else (some p1_0))
def EW:Nat→Watched→Bool→Int→Int→Option (Bool)
 |0,_,_,_,_=>none
 |n+1,a0,p1_0,p3_0,p4_0=>(if (decide (p4_0<(a0.cluster.grid.shards.length:Int)))=true then ((GB a0 p3_0 p4_0 (a0.cluster.grid.shards.length:Int)).bind fun v21004=>(if (!v21004)=true then (some false) else (EW n a0 p1_0 p3_0 (IntKind.i64.wrap (p4_0+1))))) else (CU n a0 p1_0 (IntKind.i64.wrap (p3_0+1))))
end
mutual
def E9:Nat→Watched→Bool→Int→Option (Bool)
 |0,_,_,_=>none
 |n+1,a0,p1_0,p1_1=>(if (decide (p1_1<(a0.cluster.grid.shards.length:Int)))=true then (if p1_0=true then (Gc n a0 p1_1 true) else ((at? a0.shot.taken p1_1).bind fun v12007=>(Gc n a0 p1_1 v12007))) else (CU fuel a0 p1_0 0))
def Gc:Nat→Watched→Int→Bool→Option (Bool)
 |0,_,_,_=>none
 |n+1,a0,p1_1,p2_0=>((GA a0.shot p1_1).bind fun v13002=>(if (!v13002)=true then (some false) else (E9 n a0 p2_0 (IntKind.i64.wrap (p1_1+1)))))
end
def FA (a0:Watched) (p0_0:Bool):Option (Bool):=
 (if p0_0=true then (some false) else (E9 fuel a0 false 0))
def Om (a0:Watched):Option (Bool):=
 ((MZ a0.cluster).bind fun v2003=>(if (!v2003)=true then (some false) else (if (!decide ((a0.shot.taken.length:Int)=(a0.cluster.grid.shards.length:Int)))=true then (FA a0 true) else (if (!decide ((a0.shot.shards.length:Int)=(a0.cluster.grid.shards.length:Int)))=true then (FA a0 true) else (if (!decide ((a0.shot.counts.length:Int)=(a0.cluster.grid.shards.length:Int)))=true then (FA a0 true) else (if (!decide ((a0.shot.recording.length:Int)=(IntKind.i64.wrap ((a0.cluster.grid.shards.length:Int)*(a0.cluster.grid.shards.length:Int)))))=true then (FA a0 true) else (FA a0 (!decide ((a0.shot.saved.length:Int)=(IntKind.i64.wrap ((a0.cluster.grid.shards.length:Int)*(a0.cluster.grid.shards.length:Int))))))))))))
def DZ:Nat→Watched→Int→Option (Bool)
 |0,_,_=>none
 |n+1,a0,p1_0=>(if (decide (p1_0<(a0.shot.recording.length:Int)))=true then ((at? a0.shot.recording p1_0).bind fun v10006=>(if v10006=true then (some false) else (DZ n a0 (IntKind.i64.wrap (p1_0+1))))) else (some true))
def Da:Nat→Watched→Int→Option (Bool)
 |0,_,_=>none
 |n+1,a0,p0_0=>(if (decide (p0_0<(a0.shot.taken.length:Int)))=true then ((at? a0.shot.taken p0_0).bind fun v5006=>(if (!v5006)=true then (some false) else (Da n a0 (IntKind.i64.wrap (p0_0+1))))) else (DZ fuel a0 0))
def KP (a0:Watched):Option (Bool):=
 (Da fuel a0 0)
def JM (a0:Service) (p2_0:Bool):Option (Bool):=
 (if p2_0=true then ((Iw a0.good).bind fun v8005=>(if v8005=true then ((CQ a0.shots 0 1000000000).bind fun v8012=>(if v8012=true then ((CQ a0.crashes 0 1000000000).bind fun v8019=>(some v8019)) else (some false))) else (some false))) else (some false))
def Hn (a0:Service):Option (Bool):=
 (if (decide ((a0.good.grid.shards.length:Int)=(a0.watched.cluster.grid.shards.length:Int)))=true then (JM a0 (decide (a0.good.grid.root.machine=a0.watched.cluster.grid.root.machine)&&(decide (a0.good.grid.root.kind=a0.watched.cluster.grid.root.kind)&&decide (a0.good.grid.root.index=a0.watched.cluster.grid.root.index)))) else (JM a0 false))
def JN (a0:Service) (p0_0:Bool):Option (Bool):=
 (if p0_0=true then (some false) else (Hn a0))
def On (a0:Service):Option (Bool):=
 ((Hm a0).bind fun v2001=>(if v2001=true then ((Iw a0.watched.cluster).bind fun v3004=>(if (!v3004)=true then (some false) else (Hn a0))) else ((Om a0.watched).bind fun v5003=>(if (!v5003)=true then (JN a0 true) else ((KP a0.watched).bind fun v5009=>(JN a0 v5009))))))
end Go.Proofs.YtclmbjbbojdojaaGreat.Ab
