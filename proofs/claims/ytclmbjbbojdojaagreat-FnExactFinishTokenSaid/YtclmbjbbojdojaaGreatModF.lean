/-
  Data of the program as Lean types; how they lie in memory. Printed by wip/ab/gen.py.
-/
import Derived.Test.YtclmbjbbojdojaaGreatAbY
import Derived.Test.YtclmbjbbojdojaaGreatModV
import Derived.Test.YtclmbjbbojdojaaGreatModO
namespace Go.Proofs.YtclmbjbbojdojaaGreat.Ab
set_option linter.unusedVariables false
set_option linter.unusedSimpArgs false
set_option maxRecDepth 20000
set_option maxHeartbeats 4000000
open Go.RowKit
structure Detector where
 cluster:Cluster
 holder:Int
 count:Int
 dark:Bool
 stained:List Bool
 rounds:Int
 announced:Bool
def Detector.ds (c:Detector):List D:=[.sl (c.cluster.grid.shards.map Shard.ds),.int .i64 c.cluster.grid.root.machine,.int .i64 c.cluster.grid.root.kind,.int .i64 c.cluster.grid.root.index,.sl (List.map (slD Parcel.ds) c.cluster.channels),.sl (List.map (slD AB) c.cluster.counts),.sl (c.cluster.sent.map AB),.sl (c.cluster.got.map AB),.int .i64 c.holder,.int .i64 c.count,.bool c.dark,.sl (c.stained.map BA),.int .i64 c.rounds,.bool c.announced]
theorem Detector.ds_eq (c:Detector):c.ds=[.sl (c.cluster.grid.shards.map Shard.ds),.int .i64 c.cluster.grid.root.machine,.int .i64 c.cluster.grid.root.kind,.int .i64 c.cluster.grid.root.index,.sl (List.map (slD Parcel.ds) c.cluster.channels),.sl (List.map (slD AB) c.cluster.counts),.sl (c.cluster.sent.map AB),.sl (c.cluster.got.map AB),.int .i64 c.holder,.int .i64 c.count,.bool c.dark,.sl (c.stained.map BA),.int .i64 c.rounds,.bool c.announced] :=rfl
@[go_sem] def Detector.avs (c:Detector):List AV:=[.ro (c.cluster.grid.shards.map Shard.ds),.int .i64 c.cluster.grid.root.machine,.int .i64 c.cluster.grid.root.kind,.int .i64 c.cluster.grid.root.index,.ro (List.map (slD Parcel.ds) c.cluster.channels),.ro (List.map (slD AB) c.cluster.counts),.ro (c.cluster.sent.map AB),.ro (c.cluster.got.map AB),.int .i64 c.holder,.int .i64 c.count,.bool c.dark,.ro (c.stained.map BA),.int .i64 c.rounds,.bool c.announced]
@[go_sem] def Detector.rv (c:Detector):List RV:=[.ow (some 3) (c.cluster.grid.shards.map Shard.ds),.int .i64 c.cluster.grid.root.machine,.int .i64 c.cluster.grid.root.kind,.int .i64 c.cluster.grid.root.index,.ow (some 1) (List.map (slD Parcel.ds) c.cluster.channels),.ow (some 1) (List.map (slD AB) c.cluster.counts),.ow (some 1) (c.cluster.sent.map AB),.ow (some 1) (c.cluster.got.map AB),.int .i64 c.holder,.int .i64 c.count,.bool c.dark,.ow (some 1) (c.stained.map BA),.int .i64 c.rounds,.bool c.announced]
@[go_sem] def Detector.rvn (c:Detector):List RV:=[.ow none (c.cluster.grid.shards.map Shard.ds),.int .i64 c.cluster.grid.root.machine,.int .i64 c.cluster.grid.root.kind,.int .i64 c.cluster.grid.root.index,.ow none (List.map (slD Parcel.ds) c.cluster.channels),.ow none (List.map (slD AB) c.cluster.counts),.ow none (c.cluster.sent.map AB),.ow none (c.cluster.got.map AB),.int .i64 c.holder,.int .i64 c.count,.bool c.dark,.ow none (c.stained.map BA),.int .i64 c.rounds,.bool c.announced]
attribute [go_sem] Detector.ds_eq
theorem Detector.ds_len (c:Detector):c.ds.length=14:=by rw [Detector.ds_eq]; rfl
def Detector.dz (c:Detector):List D:=[.fz (c.cluster.grid.shards.map Shard.ds),.int .i64 c.cluster.grid.root.machine,.int .i64 c.cluster.grid.root.kind,.int .i64 c.cluster.grid.root.index,.fz (List.map (slD Parcel.ds) c.cluster.channels),.fz (List.map (slD AB) c.cluster.counts),.fz (c.cluster.sent.map AB),.fz (c.cluster.got.map AB),.int .i64 c.holder,.int .i64 c.count,.bool c.dark,.fz (c.stained.map BA),.int .i64 c.rounds,.bool c.announced]
@[go_sem] theorem Detector.dz_eq (c:Detector):c.dz=[.fz (c.cluster.grid.shards.map Shard.ds),.int .i64 c.cluster.grid.root.machine,.int .i64 c.cluster.grid.root.kind,.int .i64 c.cluster.grid.root.index,.fz (List.map (slD Parcel.ds) c.cluster.channels),.fz (List.map (slD AB) c.cluster.counts),.fz (c.cluster.sent.map AB),.fz (c.cluster.got.map AB),.int .i64 c.holder,.int .i64 c.count,.bool c.dark,.fz (c.stained.map BA),.int .i64 c.rounds,.bool c.announced] :=rfl
theorem Detector.dz_len (c:Detector):c.dz.length=14:=rfl
theorem Detector.dz_fz (c:Detector):fzC c.ds=c.dz:=by rw [Detector.ds_eq]; rfl
theorem Detector.dz_ng (c:Detector):∀d ∈ c.ds,d≠ .gone :=by rw [Detector.ds_eq]; exact MF rfl
@[go_sem] theorem Detector.dz_er (l:List Detector):erR (l.map Detector.dz)=List.map Detector.ds l:=HX (fun c=>by rw [Detector.ds_eq]; simp only [Detector.dz,erC,er]) l
def H7 (a0:Detector) (a1:Int):Option (Int):=
 ((I6 a0.cluster a1).bind fun v2003=>(if (decide (v2003<0))=true then (some (-1)) else ((LZ a0.stained v2003).bind fun v5003=>(if (decide (v5003<0))=true then (some (-1)) else (some v5003)))))
def Hp (a0:Cluster) (a1:Int):Option (Int):=
 ((at? a0.sent a1).bind fun v2005=>((at? a0.got a1).bind fun v2012=>(some (IntKind.i64.wrap (v2005 - v2012)))))
def C5:Nat→Cluster→Int→Int→Option (Int)
 |0,_,_,_=>none
 |n+1,a0,p0_0,p0_1=>(if (decide (p0_1<(a0.channels.length:Int)))=true then ((at? a0.channels p0_1).bind fun v6006=>((at? a0.channels p0_1).bind fun v6014=>((H8 v6014).bind fun v6016=>(C5 n a0 (IntKind.i64.wrap (p0_0+(IntKind.i64.wrap ((v6006.length:Int) - v6016)))) (IntKind.i64.wrap (p0_1+1)))))) else (some p0_0))
def Jf (a0:Cluster):Option (Int):=
 (C5 fuel a0 0 0)
def Bj:Nat→Cluster→Int→Int→Option (Bool)
 |0,_,_,_=>none
 |n+1,a0,p0_0,p1_0=>(if (decide (p1_0<(a0.channels.length:Int)))=true then ((at? a0.channels p1_0).bind fun v10005=>((H8 v10005).bind fun v10007=>(if (decide (0<v10007))=true then (some false) else (Bj n a0 p0_0 (IntKind.i64.wrap (p1_0+1)))))) else ((Jf a0).bind fun v12002=>(some (decide (p0_0=v12002)))))
def Db:Nat→Cluster→Int→Int→Option (Bool)
 |0,_,_,_=>none
 |n+1,a0,p0_0,p0_1=>(if (decide (p0_1<(a0.sent.length:Int)))=true then ((Hp a0 p0_1).bind fun v6003=>(Db n a0 (IntKind.i64.wrap (p0_0+v6003)) (IntKind.i64.wrap (p0_1+1)))) else (Bj fuel a0 p0_0 0))
def I7 (a0:Cluster):Option (Bool):=
 (Db fuel a0 0 0)
def KG (a0:Detector) (p0_0:Bool):Option (Bool):=
 (if p0_0=true then (some false) else ((CK a0.holder 0 (IntKind.i64.wrap ((a0.cluster.sent.length:Int) - 1))).bind fun v5006=>(if v5006=true then ((CK a0.count (-4000000000) 4000000000).bind fun v5012=>(if v5012=true then (if (decide ((a0.stained.length:Int)=(a0.cluster.sent.length:Int)))=true then ((CK a0.rounds 0 1000000000).bind fun v5028=>(some v5028)) else (some false)) else (some false))) else (some false))))
def QZ (a0:Detector):Option (Bool):=
 ((Qa a0.cluster).bind fun v2003=>(if (!v2003)=true then (KG a0 true) else ((I7 a0.cluster).bind fun v2009=>(KG a0 (!v2009)))))
def Qb (a0:Detector):Option (Detector):=
 ((NI a0.cluster).bind fun v3003=>((Es [] a0.stained).bind fun v4005=>(some (⟨v3003,a0.holder,a0.count,a0.dark,v4005,a0.rounds,a0.announced⟩:Detector))))
def NJ (a0:Detector):Option (Bool):=
 (if (!a0.announced)=true then ((at? a0.cluster.grid.shards a0.holder).bind fun v2016=>(some (decide ((v2016.redexes.length:Int)=0)))) else (some false))
def G0 (a0:Detector) (v3008:Int) (p0_0:Bool):Option (Int × Detector):=
 ((at? a0.stained a0.holder).bind fun v7005=>((A4 a0.stained a0.holder false).bind fun v7006_2=>(some (1,(⟨a0.cluster,(IntKind.i64.wrap (a0.holder - 1)),(IntKind.i64.wrap (a0.count+v3008)),p0_0,v7006_2,a0.rounds,a0.announced⟩:Detector)))))
def Fw (a0:Detector) (p1_0:Bool):Option (Int × Detector):=
 (if p1_0=true then (some (3,(⟨a0.cluster,a0.holder,a0.count,a0.dark,a0.stained,a0.rounds,true⟩:Detector))) else ((at? a0.stained 0).bind fun v16004=>((A4 a0.stained 0 false).bind fun v16005_3=>(some (2,(⟨a0.cluster,(IntKind.i64.wrap ((v16005_3.length:Int) - 1)),0,false,v16005_3,(IntKind.i64.wrap (a0.rounds+1)),a0.announced⟩:Detector))))))
def La (a0:Detector):Option (Int × Detector):=
 ((Hp a0.cluster a0.holder).bind fun v3008=>(if (decide (0<a0.holder))=true then (if a0.dark=true then (G0 a0 v3008 true) else ((at? a0.stained a0.holder).bind fun v6011=>(G0 a0 v3008 v6011))) else (if (!a0.dark)=true then ((at? a0.stained 0).bind fun v10010=>(if (!v10010)=true then (Fw a0 (decide ((IntKind.i64.wrap (a0.count+v3008))=0))) else (Fw a0 false))) else (Fw a0 false))))
def FY (a0:Detector):Option (Bool):=
 (if (decide (1000000000<a0.rounds))=true then (some true) else ((CK a0.count (-4000000000) 4000000000).bind fun v2010=>(some (!v2010))))
def Cj:Nat→Int→(List Shard)→Int→Int→Int→(List (List Parcel))→(List (List Int))→(List Int)→(List Int)→Int→Int→Bool→(List Bool)→Int→Bool→Int→Option (Detector × Int × Int)
 |0,_,_,_,_,_,_,_,_,_,_,_,_,_,_,_,_=>none
 |n+1,a1,p1_0,p1_1,p1_2,p1_3,p1_4,p1_5,p1_6,p1_7,p1_8,p1_9,p1_10,p1_11,p1_12,p1_13,p1_14=>(if (!p1_13)=true then (if (decide (p1_14=a1))=true then (some ((⟨(⟨(⟨[],(⟨0,0,0⟩:Address)⟩:Grid),[],[],[],[]⟩:Cluster),0,0,false,[],0,false⟩:Detector),0,12)) else ((NJ (⟨(⟨(⟨p1_0,(⟨p1_1,p1_2,p1_3⟩:Address)⟩:Grid),p1_4,p1_5,p1_6,p1_7⟩:Cluster),p1_8,p1_9,p1_10,p1_11,p1_12,p1_13⟩:Detector)).bind fun v11000=>(if (!v11000)=true then (some ((⟨(⟨(⟨[],(⟨0,0,0⟩:Address)⟩:Grid),[],[],[],[]⟩:Cluster),0,0,false,[],0,false⟩:Detector),0,5)) else ((La (⟨(⟨(⟨p1_0,(⟨p1_1,p1_2,p1_3⟩:Address)⟩:Grid),p1_4,p1_5,p1_6,p1_7⟩:Cluster),p1_8,p1_9,p1_10,p1_11,p1_12,p1_13⟩:Detector)).bind fun v13000=>((FY v13000.2).bind fun v14000=>(if v14000=true then (some ((⟨(⟨(⟨[],(⟨0,0,0⟩:Address)⟩:Grid),[],[],[],[]⟩:Cluster),0,0,false,[],0,false⟩:Detector),0,4)) else (Cj n a1 v13000.2.cluster.grid.shards v13000.2.cluster.grid.root.machine v13000.2.cluster.grid.root.kind v13000.2.cluster.grid.root.index v13000.2.cluster.channels v13000.2.cluster.counts v13000.2.cluster.sent v13000.2.cluster.got v13000.2.holder v13000.2.count v13000.2.dark v13000.2.stained v13000.2.rounds v13000.2.announced (IntKind.i64.wrap (p1_14+1))))))))) else (some ((⟨(⟨(⟨p1_0,(⟨p1_1,p1_2,p1_3⟩:Address)⟩:Grid),p1_4,p1_5,p1_6,p1_7⟩:Cluster),p1_8,p1_9,p1_10,p1_11,p1_12,p1_13⟩:Detector),p1_14,0)))
def HF (a0:Detector) (a1:Int):Option (Detector × Int × Int):=
 ((QZ a0).bind fun v2000=>(if (!v2000)=true then (some ((⟨(⟨(⟨[],(⟨0,0,0⟩:Address)⟩:Grid),[],[],[],[]⟩:Cluster),0,0,false,[],0,false⟩:Detector),0,1)) else ((CK a1 0 4000).bind fun v4001=>(if (!v4001)=true then (some ((⟨(⟨(⟨[],(⟨0,0,0⟩:Address)⟩:Grid),[],[],[],[]⟩:Cluster),0,0,false,[],0,false⟩:Detector),0,2)) else ((Qb a0).bind fun v6000=>(Cj fuel a1 v6000.cluster.grid.shards v6000.cluster.grid.root.machine v6000.cluster.grid.root.kind v6000.cluster.grid.root.index v6000.cluster.channels v6000.cluster.counts v6000.cluster.sent v6000.cluster.got v6000.holder v6000.count v6000.dark v6000.stained v6000.rounds v6000.announced 0))))))
def EA (a0:Detector):Option (Detector):=
 ((I8 a0.cluster).bind fun v3002=>((Lb a0.stained).bind fun v7002=>(some (⟨v3002,a0.holder,a0.count,a0.dark,v7002,a0.rounds,a0.announced⟩:Detector))))
def I9:Nat→(List Int)→Int→Int→Option (Int)
 |0,_,_,_=>none
 |n+1,a0,p0_0,p0_1=>(if (decide (p0_1<(a0.length:Int)))=true then ((at? a0 p0_1).bind fun v5000=>(I9 n a0 (IntKind.i64.wrap (p0_0+v5000)) (IntKind.i64.wrap (p0_1+1)))) else (some p0_0))
def Yy (a0:List Int):Option (Int):=
 (I9 fuel a0 0 0)
def BF:Nat→Cluster→Int→Int→Option (Int)
 |0,_,_,_=>none
 |n+1,a0,p0_0,p0_1=>(if (decide (p0_1<(a0.channels.length:Int)))=true then ((at? a0.channels p0_1).bind fun v5000=>((Lc v5000).bind fun v6004=>(BF n a0 (IntKind.i64.wrap (p0_0+(IntKind.i64.wrap ((v5000.length:Int) - v6004)))) (IntKind.i64.wrap (p0_1+1))))) else (some p0_0))
def FQ (a0:Cluster):Option (Int):=
 (BF fuel a0 0 0)
def EO (a0:Cluster):Option (Bool):=
 ((Dc a0).bind fun v2001=>(if (!v2001)=true then ((Yy a0.sent).bind fun v2008=>((Yy a0.got).bind fun v2013=>((FQ a0).bind fun v2016=>(some (decide ((IntKind.i64.wrap (v2008 - v2013))=v2016)))))) else (some false)))
def FZ (a0:Int):Option (Bool):=
 (if (decide ((-4000000000)≤a0))=true then (some (decide (a0≤4000000000))) else (some false))
def EP (a0:Detector) (p0_0:Bool):Option (Bool):=
 (if p0_0=true then (some false) else ((B0 a0.cluster).bind fun v4001=>((Gg (IntKind.i64.wrap (v4001 - 1)) [a0.holder]).bind fun v5005=>(if v5005=true then ((FZ a0.count).bind fun v5009=>(if v5009=true then (if (decide ((a0.stained.length:Int)=v4001))=true then ((Gg 1000000000 [a0.rounds]).bind fun v5022=>(some v5022)) else (some false)) else (some false))) else (some false)))))
def GC (a0:Detector):Option (Bool):=
 ((Gi a0.cluster).bind fun v2002=>(if (!v2002)=true then (EP a0 true) else ((EO a0.cluster).bind fun v2006=>(EP a0 (!v2006)))))
def Ix (a0:List Bool):Option ((List Bool)):=
 ((Es [] a0).bind fun v4002=>(some v4002))
def H9 (a0:Detector):Option (Detector):=
 ((HG a0.cluster).bind fun v2002=>((Ix a0.stained).bind fun v2005=>(some (⟨v2002,a0.holder,a0.count,a0.dark,v2005,a0.rounds,a0.announced⟩:Detector))))
def EQ (a0:Detector):Option (Bool):=
 (if (!a0.announced)=true then ((at? a0.cluster.grid.shards a0.holder).bind fun v2016=>(some (decide ((v2016.redexes.length:Int)=0)))) else (some false))
def DI (a0:Detector) (v3010:Int) (v3019:Int) (p0_0:Bool):Option (Int × Int × Detector):=
 ((at? a0.stained a0.holder).bind fun v7005=>((A4 a0.stained a0.holder false).bind fun v7006_2=>((FZ (IntKind.i64.wrap ((IntKind.i64.wrap (a0.count+v3010)) - v3019))).bind fun v9001=>(if (!v9001)=true then (some (0,4,(⟨a0.cluster,(IntKind.i64.wrap (a0.holder - 1)),(IntKind.i64.wrap ((IntKind.i64.wrap (a0.count+v3010)) - v3019)),p0_0,v7006_2,a0.rounds,a0.announced⟩:Detector))) else (some (1,0,(⟨a0.cluster,(IntKind.i64.wrap (a0.holder - 1)),(IntKind.i64.wrap ((IntKind.i64.wrap (a0.count+v3010)) - v3019)),p0_0,v7006_2,a0.rounds,a0.announced⟩:Detector)))))))
def Ce (a0:Detector) (p1_0:Bool):Option (Int × Int × Detector):=
 (if p1_0=true then (some (3,0,(⟨a0.cluster,a0.holder,a0.count,a0.dark,a0.stained,a0.rounds,true⟩:Detector))) else (if (decide (a0.rounds=1000000000))=true then (some (0,4,a0)) else ((at? a0.stained 0).bind fun v18012=>((A4 a0.stained 0 false).bind fun v18013_3=>((B0 a0.cluster).bind fun v19004=>(some (2,0,(⟨a0.cluster,(IntKind.i64.wrap (v19004 - 1)),0,false,v18013_3,(IntKind.i64.wrap (a0.rounds+1)),a0.announced⟩:Detector))))))))
def GD (a0:Detector):Option (Int × Int × Detector):=
 ((at? a0.cluster.sent a0.holder).bind fun v3010=>((at? a0.cluster.got a0.holder).bind fun v3019=>(if (decide (0<a0.holder))=true then (if a0.dark=true then (DI a0 v3010 v3019 true) else ((at? a0.stained a0.holder).bind fun v6011=>(DI a0 v3010 v3019 v6011))) else (if (!a0.dark)=true then ((at? a0.stained 0).bind fun v12010=>(if (!v12010)=true then (Ce a0 (decide ((IntKind.i64.wrap ((IntKind.i64.wrap (a0.count+v3010)) - v3019))=0))) else (Ce a0 false))) else (Ce a0 false)))))
def Ck:Nat→Int→(List Shard)→Int→Int→Int→(List (List Parcel))→(List (List Int))→(List Int)→(List Int)→Int→Int→Bool→(List Bool)→Int→Bool→Int→Option (Detector × Int × Int)
 |0,_,_,_,_,_,_,_,_,_,_,_,_,_,_,_,_=>none
 |n+1,a1,p2_0,p2_1,p2_2,p2_3,p2_4,p2_5,p2_6,p2_7,p2_8,p2_9,p2_10,p2_11,p2_12,p2_13,p2_14=>(if (!p2_13)=true then (if (decide (p2_14=a1))=true then (some ((⟨(⟨(⟨[],(⟨0,0,0⟩:Address)⟩:Grid),[],[],[],[]⟩:Cluster),0,0,false,[],0,false⟩:Detector),0,12)) else ((EQ (⟨(⟨(⟨p2_0,(⟨p2_1,p2_2,p2_3⟩:Address)⟩:Grid),p2_4,p2_5,p2_6,p2_7⟩:Cluster),p2_8,p2_9,p2_10,p2_11,p2_12,p2_13⟩:Detector)).bind fun v12000=>(if (!v12000)=true then (some ((⟨(⟨(⟨[],(⟨0,0,0⟩:Address)⟩:Grid),[],[],[],[]⟩:Cluster),0,0,false,[],0,false⟩:Detector),0,5)) else ((GD (⟨(⟨(⟨p2_0,(⟨p2_1,p2_2,p2_3⟩:Address)⟩:Grid),p2_4,p2_5,p2_6,p2_7⟩:Cluster),p2_8,p2_9,p2_10,p2_11,p2_12,p2_13⟩:Detector)).bind fun v14000=>(if (!decide (v14000.2.1 =0))=true then (some ((⟨(⟨(⟨[],(⟨0,0,0⟩:Address)⟩:Grid),[],[],[],[]⟩:Cluster),0,0,false,[],0,false⟩:Detector),0,v14000.2.1)) else (Ck n a1 v14000.2.2.cluster.grid.shards v14000.2.2.cluster.grid.root.machine v14000.2.2.cluster.grid.root.kind v14000.2.2.cluster.grid.root.index v14000.2.2.cluster.channels v14000.2.2.cluster.counts v14000.2.2.cluster.sent v14000.2.2.cluster.got v14000.2.2.holder v14000.2.2.count v14000.2.2.dark v14000.2.2.stained v14000.2.2.rounds v14000.2.2.announced (IntKind.i64.wrap (p2_14+1)))))))) else (some ((⟨(⟨(⟨p2_0,(⟨p2_1,p2_2,p2_3⟩:Address)⟩:Grid),p2_4,p2_5,p2_6,p2_7⟩:Cluster),p2_8,p2_9,p2_10,p2_11,p2_12,p2_13⟩:Detector),p2_14,0)))
def EJ (a0:Detector) (a1:Int) (p0_0:Bool):Option (Detector × Int × Int):=
 (if p0_0=true then (some ((⟨(⟨(⟨[],(⟨0,0,0⟩:Address)⟩:Grid),[],[],[],[]⟩:Cluster),0,0,false,[],0,false⟩:Detector),0,2)) else ((H9 a0).bind fun v6001=>(Ck fuel a1 v6001.cluster.grid.shards v6001.cluster.grid.root.machine v6001.cluster.grid.root.kind v6001.cluster.grid.root.index v6001.cluster.channels v6001.cluster.counts v6001.cluster.sent v6001.cluster.got v6001.holder v6001.count v6001.dark v6001.stained v6001.rounds v6001.announced 0)))
def GN (a0:Detector) (a1:Int):Option (Detector × Int × Int):=
 ((GC a0).bind fun v2001=>(if (!v2001)=true then (some ((⟨(⟨(⟨[],(⟨0,0,0⟩:Address)⟩:Grid),[],[],[],[]⟩:Cluster),0,0,false,[],0,false⟩:Detector),0,1)) else (if (decide (a1<0))=true then (EJ a0 a1 true) else (EJ a0 a1 (decide (4000<a1))))))
def DR (a0:Detector) (a1:Detector):Option (Bool):=
 ((JA a0.cluster a1.cluster).bind fun v2004=>(if (!v2004)=true then (some false) else (if (!decide (a0.holder=a1.holder))=true then (some false) else (if (!decide (a0.count=a1.count))=true then (some false) else (if (!(a0.dark == a1.dark))=true then (some false) else ((Ld a0.stained a1.stained).bind fun v10004=>(if (!v10004)=true then (some false) else (if (!decide (a0.rounds=a1.rounds))=true then (some false) else (if (!(a0.announced == a1.announced))=true then (some false) else (some true))))))))))
def Dd (a0:Detector) (a1:Int):Option (Int × (List Shard) × (List (List Parcel)) × (List (List Int)) × (List Int) × (List Int) × (List Bool)):=
 ((Iy a0.cluster a1).bind fun v2003=>((JB a0.stained v2003.1).bind fun v3003=>(some (v3003.1,v2003.2.1,v2003.2.2.1,v2003.2.2.2.1,v2003.2.2.2.2.1,v2003.2.2.2.2.2,v3003.2))))
def ER (a0:Detector) (a1:Int):Option (Int):=
 ((Iz a0.cluster a1).bind fun v2003=>(if (decide (v2003<0))=true then (some (-1)) else ((JC a0.stained v2003).bind fun v5003=>(if (decide (v5003<0))=true then (some (-1)) else (some v5003)))))
def Bw (v8002:Detector × Int × Int) (v18002:Int × (List Shard) × (List (List Parcel)) × (List (List Int)) × (List Int) × (List Int) × (List Bool)) (p2_0:Bool):Option (Bool):=
 (if p2_0=true then (some false) else ((ER (⟨(⟨(⟨v18002.2.1,v8002.1.cluster.grid.root⟩:Grid),v18002.2.2.1,v18002.2.2.2.1,v18002.2.2.2.2.1,v18002.2.2.2.2.2.1⟩:Cluster),v8002.1.holder,v8002.1.count,v8002.1.dark,v18002.2.2.2.2.2.2,v8002.1.rounds,v8002.1.announced⟩:Detector) 1).bind fun v29002=>(if (decide (v29002<0))=true then (some false) else (if (!decide (v29002=v18002.1))=true then (some false) else (some true)))))
def BS (a0:Detector) (a1:Int) (v6003:Detector × Int × Int) (v8002:Detector × Int × Int) (p1_0:Bool):Option (Bool):=
 (if p1_0=true then (some false) else ((Dd v8002.1 1).bind fun v18002=>((ER (⟨(⟨(⟨v18002.2.1,v8002.1.cluster.grid.root⟩:Grid),v18002.2.2.1,v18002.2.2.2.1,v18002.2.2.2.2.1,v18002.2.2.2.2.2.1⟩:Cluster),v8002.1.holder,v8002.1.count,v8002.1.dark,v18002.2.2.2.2.2.2,v8002.1.rounds,v8002.1.announced⟩:Detector) 1).bind fun v20002=>(if (decide (v20002<0))=true then (some false) else (if (!decide (v20002=v18002.1))=true then (some false) else ((EA a0).bind fun v25001=>((GN v25001 a1).bind fun v25003=>((DR v25003.1 v6003.1).bind fun v26002=>(if (!v26002)=true then (Bw v8002 v18002 true) else (if (!decide (v25003.2.1 =v6003.2.1))=true then (Bw v8002 v18002 true) else (Bw v8002 v18002 (!decide (v25003.2.2 =v6003.2.2)))))))))))))
def Bx (a0:Detector) (a1:Int) (v6003:Detector × Int × Int) (v7001:Detector) (v8002:Detector × Int × Int) (p0_0:Bool):Option (Bool):=
 (if p0_0=true then (some false) else ((EA a0).bind fun v11002=>((DR v7001 v11002).bind fun v11003=>(if (!v11003)=true then (some false) else ((Dd v7001 1).bind fun v14002=>(if (decide (v14002.1 <0))=true then (BS a0 a1 v6003 v8002 true) else ((DR v8002.1 v6003.1).bind fun v15005=>(if (!v15005)=true then (BS a0 a1 v6003 v8002 true) else (if (!decide (v8002.2.1 =v6003.2.1))=true then (BS a0 a1 v6003 v8002 true) else (BS a0 a1 v6003 v8002 (!decide (v8002.2.2 =v6003.2.2))))))))))))
def Eu (a0:Detector) (a1:Int):Option (Bool):=
 ((H7 a0 1048576).bind fun v3002=>(if (decide (v3002<0))=true then (some true) else ((EA a0).bind fun v6001=>((HF v6001 a1).bind fun v6003=>((EA a0).bind fun v7001=>((GN v7001 a1).bind fun v8002=>((DR v8002.1 v6003.1).bind fun v9002=>(if (!v9002)=true then (Bx a0 a1 v6003 v7001 v8002 true) else (if (!decide (v8002.2.1 =v6003.2.1))=true then (Bx a0 a1 v6003 v7001 v8002 true) else (Bx a0 a1 v6003 v7001 v8002 (!decide (v8002.2.2 =v6003.2.2))))))))))))
end Go.Proofs.YtclmbjbbojdojaaGreat.Ab
