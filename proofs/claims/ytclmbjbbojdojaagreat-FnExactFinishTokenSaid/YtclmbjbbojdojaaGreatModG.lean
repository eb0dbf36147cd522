/-
  Data of the program as Lean types; how they lie in memory. Printed by wip/ab/gen.py.
-/
import Derived.Test.YtclmbjbbojdojaaGreatAbY
import Derived.Test.YtclmbjbbojdojaaGreatModY
namespace Go.Proofs.YtclmbjbbojdojaaGreat.Ab
set_option linter.unusedVariables false
set_option linter.unusedSimpArgs false
set_option maxRecDepth 20000
set_option maxHeartbeats 4000000
open Go.RowKit
structure L27Links where
 agents:List Agent
 ports:List Port
 cells:List (List Int)
 vars:List (List Int)
 ends:List (List Int)
 pairs:List (List Int)
def L27Links.ds (c:L27Links):List D:=[.sl (c.agents.map Agent.ds),.sl (c.ports.map Port.ds),.sl (List.map (slD AB) c.cells),.sl (List.map (slD AB) c.vars),.sl (List.map (slD AB) c.ends),.sl (List.map (slD AB) c.pairs)]
theorem L27Links.ds_eq (c:L27Links):c.ds=[.sl (c.agents.map Agent.ds),.sl (c.ports.map Port.ds),.sl (List.map (slD AB) c.cells),.sl (List.map (slD AB) c.vars),.sl (List.map (slD AB) c.ends),.sl (List.map (slD AB) c.pairs)] :=rfl
@[go_sem] def L27Links.avs (c:L27Links):List AV:=[.ro (c.agents.map Agent.ds),.ro (c.ports.map Port.ds),.ro (List.map (slD AB) c.cells),.ro (List.map (slD AB) c.vars),.ro (List.map (slD AB) c.ends),.ro (List.map (slD AB) c.pairs)]
@[go_sem] def L27Links.rv (c:L27Links):List RV:=[.ow (some 5) (c.agents.map Agent.ds),.ow (some 2) (c.ports.map Port.ds),.ow (some 1) (List.map (slD AB) c.cells),.ow (some 1) (List.map (slD AB) c.vars),.ow (some 1) (List.map (slD AB) c.ends),.ow (some 1) (List.map (slD AB) c.pairs)]
@[go_sem] def L27Links.rvn (c:L27Links):List RV:=[.ow none (c.agents.map Agent.ds),.ow none (c.ports.map Port.ds),.ow none (List.map (slD AB) c.cells),.ow none (List.map (slD AB) c.vars),.ow none (List.map (slD AB) c.ends),.ow none (List.map (slD AB) c.pairs)]
attribute [go_sem] L27Links.ds_eq
theorem L27Links.ds_len (c:L27Links):c.ds.length=6:=by rw [L27Links.ds_eq]; rfl
def L27Links.dz (c:L27Links):List D:=[.fz (c.agents.map Agent.ds),.fz (c.ports.map Port.ds),.fz (List.map (slD AB) c.cells),.fz (List.map (slD AB) c.vars),.fz (List.map (slD AB) c.ends),.fz (List.map (slD AB) c.pairs)]
@[go_sem] theorem L27Links.dz_eq (c:L27Links):c.dz=[.fz (c.agents.map Agent.ds),.fz (c.ports.map Port.ds),.fz (List.map (slD AB) c.cells),.fz (List.map (slD AB) c.vars),.fz (List.map (slD AB) c.ends),.fz (List.map (slD AB) c.pairs)] :=rfl
theorem L27Links.dz_len (c:L27Links):c.dz.length=6:=rfl
theorem L27Links.dz_fz (c:L27Links):fzC c.ds=c.dz:=by rw [L27Links.ds_eq]; rfl
theorem L27Links.dz_ng (c:L27Links):∀d ∈ c.ds,d≠ .gone :=by rw [L27Links.ds_eq]; exact MF rfl
@[go_sem] theorem L27Links.dz_er (l:List L27Links):erR (l.map L27Links.dz)=List.map L27Links.ds l:=HX (fun c=>by rw [L27Links.ds_eq]; simp only [L27Links.dz,erC,er]) l
def In (a0:ShardCell):Option (Agent):=
 ((HH a0.data).bind fun v2016=>((rep? (IntKind.i64.wrap ((a0.aux.length:Int)+1)) (⟨0,0⟩:Port)).bind fun v2023=>(some (⟨a0.kind,a0.level,a0.value,v2016,v2023⟩:Agent))))
def Hq (a0:ShardCell):Option (Bool):=
 (if (decide (a0.kind=0))=true then (if (decide (a0.level=0))=true then (if (decide (a0.value=0))=true then (if (decide ((a0.data.length:Int)=0))=true then (some (decide ((a0.aux.length:Int)=0))) else (some false)) else (some false)) else (some false)) else (if (decide (3<(a0.aux.length:Int)))=true then (some false) else ((In a0).bind fun v6001=>(if (!decide (a0.kind=1))=true then ((KH v6001).bind fun v7006=>(some v7006)) else (some false)))))
mutual
def Ay:Nat→Grid→Int→Option (Bool)
 |0,_,_=>none
 |n+1,a0,p10_0=>(if (decide (p10_0<(a0.shards.length:Int)))=true then ((at? a0.shards p10_0).bind fun v8005=>(if (decide (400<(v8005.cells.length:Int)))=true then (C6 n a0 p10_0 v8005 true) else (if (decide (400<(v8005.vars.length:Int)))=true then (C6 n a0 p10_0 v8005 true) else (C6 n a0 p10_0 v8005 (decide (400<(v8005.redexes.length:Int))))))) else (some true))
def C6:Nat→Grid→Int→Shard→Bool→Option (Bool)
 |0,_,_,_,_=>none
 |n+1,a0,p10_0,v8005,p11_0=>(if p11_0=true then (some false) else (BP n a0 p10_0 v8005 0))
def BP:Nat→Grid→Int→Shard→Int→Option (Bool)
 |0,_,_,_,_=>none
 |n+1,a0,p10_0,v8005,p17_0=>(if (decide (p17_0<(v8005.cells.length:Int)))=true then ((at? v8005.cells p17_0).bind fun v14005=>((Hq v14005).bind fun v14006=>(if (!v14006)=true then (some false) else (BP n a0 p10_0 v8005 (IntKind.i64.wrap (p17_0+1)))))) else (BQ n a0 p10_0 v8005 0))
def BQ:Nat→Grid→Int→Shard→Int→Option (Bool)
 |0,_,_,_,_=>none
 |n+1,a0,p10_0,v8005,p18_0=>(if (decide (p18_0<(v8005.vars.length:Int)))=true then ((at? v8005.vars p18_0).bind fun v19005=>(if v19005.full=true then (if (!v19005.used)=true then (CF n a0 p10_0 p18_0 v8005 true) else (if (!v19005.full)=true then (CF n a0 p10_0 p18_0 v8005 (!(decide (v19005.held.machine=0)&&(decide (v19005.held.kind=0)&&decide (v19005.held.index=0))))) else (CF n a0 p10_0 p18_0 v8005 false))) else (if (!v19005.full)=true then (CF n a0 p10_0 p18_0 v8005 (!(decide (v19005.held.machine=0)&&(decide (v19005.held.kind=0)&&decide (v19005.held.index=0))))) else (CF n a0 p10_0 p18_0 v8005 false)))) else (Ay n a0 (IntKind.i64.wrap (p10_0+1))))
def CF:Nat→Grid→Int→Int→Shard→Bool→Option (Bool)
 |0,_,_,_,_,_=>none
 |n+1,a0,p10_0,p18_0,v8005,p19_0=>(if p19_0=true then (some false) else (BQ n a0 p10_0 v8005 (IntKind.i64.wrap (p18_0+1))))
end
def JD (a0:Grid):Option (Bool):=
 ((CK (a0.shards.length:Int) 1 4).bind fun v2005=>(if (!v2005)=true then (some false) else (Ay fuel a0 0)))
def Du:Nat→(List Int)→Int→Int→Option (Bool)
 |0,_,_,_=>none
 |n+1,a0,a1,p0_0=>(if (decide (p0_0<a1))=true then ((at? a0 p0_0).bind fun v7002=>((CK v7002 0 1000000000).bind fun v7004=>(if (!v7004)=true then (some false) else (Du n a0 a1 (IntKind.i64.wrap (p0_0+1)))))) else (some true))
def Fx (a0:List Int) (a1:Int):Option (Bool):=
 (if (!decide ((a0.length:Int)=a1))=true then (some false) else (Du fuel a0 a1 0))
def G1:Nat→(List Int)→(List Int)→Int→Option (Bool)
 |0,_,_,_=>none
 |n+1,a0,a1,p0_0=>(if (decide (p0_0<(a0.length:Int)))=true then ((at? a0 p0_0).bind fun v7002=>((at? a1 p0_0).bind fun v7006=>(if (!decide (v7002=v7006))=true then (some false) else (G1 n a0 a1 (IntKind.i64.wrap (p0_0+1)))))) else (some true))
def Lf (a0:List Int) (a1:List Int):Option (Bool):=
 (if (!decide ((a0.length:Int)=(a1.length:Int)))=true then (some false) else (G1 fuel a0 a1 0))
def CS:Nat→(List Address)→(List Address)→Int→Option (Bool)
 |0,_,_,_=>none
 |n+1,a0,a1,p0_0=>(if (decide (p0_0<(a0.length:Int)))=true then ((at? a0 p0_0).bind fun v7002=>((at? a1 p0_0).bind fun v7006=>(if (!(decide (v7002.machine=v7006.machine)&&(decide (v7002.kind=v7006.kind)&&decide (v7002.index=v7006.index))))=true then (some false) else (CS n a0 a1 (IntKind.i64.wrap (p0_0+1)))))) else (some true))
def ES (a0:List Address) (a1:List Address):Option (Bool):=
 (if (!decide ((a0.length:Int)=(a1.length:Int)))=true then (some false) else (CS fuel a0 a1 0))
def HI (a0:ShardCell) (a1:ShardCell):Option (Bool):=
 (if (decide (a0.kind=a1.kind))=true then (if (decide (a0.level=a1.level))=true then (if (decide (a0.value=a1.value))=true then ((Lf a0.data a1.data).bind fun v2040=>(if v2040=true then ((ES a0.aux a1.aux).bind fun v2051=>(some v2051)) else (some false))) else (some false)) else (some false)) else (some false))
def JE (a0:Parcel) (a1:Int):Option (Bool):=
 ((HI a0.cell (⟨0,0,0,[],[]⟩:ShardCell)).bind fun v4003=>(if (decide (a0.kind=1))=true then (if v4003=true then (some (decide (a0.a.machine=a1))) else (some false)) else (if (decide (a0.kind=2))=true then (if v4003=true then (if (decide (a0.a.machine=a1))=true then (some (decide (a0.a.kind=2))) else (some false)) else (some false)) else (if (decide (a0.kind=3))=true then (if (!decide (a0.cell.kind=0))=true then ((Hq a0.cell).bind fun v11010=>(if v11010=true then (if (decide (a0.a.machine=0)&&(decide (a0.a.kind=0)&&decide (a0.a.index=0)))=true then (some (decide (a0.b.machine=a1))) else (some false)) else (some false))) else (some false)) else (if (decide (a0.kind=4))=true then (if v4003=true then (if (decide (a0.a.machine=0)&&(decide (a0.a.kind=0)&&decide (a0.a.index=0)))=true then (some (decide (a0.b.machine=0)&&(decide (a0.b.kind=0)&&decide (a0.b.index=0)))) else (some false)) else (some false)) else (some false))))))
mutual
def BT:Nat→Cluster→Int→Option (Bool)
 |0,_,_=>none
 |n+1,a0,p3_0=>(if (decide (p3_0<(a0.channels.length:Int)))=true then ((at? a0.channels p3_0).bind fun v13005=>(if (decide (200<(v13005.length:Int)))=true then (some false) else (CU n a0 p3_0 0))) else (some true))
def CU:Nat→Cluster→Int→Int→Option (Bool)
 |0,_,_,_=>none
 |n+1,a0,p3_0,p4_0=>((at? a0.channels p3_0).bind fun v16006=>(if (decide (p4_0<(v16006.length:Int)))=true then ((at? a0.channels p3_0).bind fun v18005=>((at? v18005 p4_0).bind fun v18008=>((nz? (a0.grid.shards.length:Int)).bind fun v18011=>((JE v18008 (Int.tmod p3_0 (a0.grid.shards.length:Int))).bind fun v18012=>(if (!v18012)=true then (some false) else (CU n a0 p3_0 (IntKind.i64.wrap (p4_0+1)))))))) else (BT n a0 (IntKind.i64.wrap (p3_0+1)))))
end
mutual
def B1:Nat→Cluster→Int→Option (Bool)
 |0,_,_=>none
 |n+1,a0,p1_0=>(if (decide (p1_0<(a0.grid.shards.length:Int)))=true then ((at? a0.counts p1_0).bind fun v8005=>((Fx v8005 7).bind fun v8007=>(if (!v8007)=true then (ET n a0 p1_0 true) else ((at? a0.channels (IntKind.i64.wrap ((IntKind.i64.wrap (p1_0*(a0.grid.shards.length:Int)))+p1_0))).bind fun v8019=>(ET n a0 p1_0 (decide (0<(v8019.length:Int)))))))) else (BT fuel a0 0))
def ET:Nat→Cluster→Int→Bool→Option (Bool)
 |0,_,_,_=>none
 |n+1,a0,p1_0,p2_0=>(if p2_0=true then (some false) else (B1 n a0 (IntKind.i64.wrap (p1_0+1))))
end
def CV (a0:Cluster) (p0_0:Bool):Option (Bool):=
 (if p0_0=true then (some false) else (B1 fuel a0 0))
def JF (a0:Cluster):Option (Bool):=
 ((JD a0.grid).bind fun v3003=>(if (!v3003)=true then (CV a0 true) else (if (!decide ((a0.channels.length:Int)=(IntKind.i64.wrap ((a0.grid.shards.length:Int)*(a0.grid.shards.length:Int)))))=true then (CV a0 true) else (if (!decide ((a0.counts.length:Int)=(a0.grid.shards.length:Int)))=true then (CV a0 true) else ((Fx a0.sent (a0.grid.shards.length:Int)).bind fun v3031=>(if (!v3031)=true then (CV a0 true) else ((Fx a0.got (a0.grid.shards.length:Int)).bind fun v3040=>(CV a0 (!v3040)))))))))
def B3:Nat→L27Links→ShardCell→(List Port)→Int→Option (Int × L27Links)
 |0,_,_,_,_=>none
 |n+1,a0,a1,p1_0,p1_1=>(if (decide (p1_1≤(a1.aux.length:Int)))=true then ((Es p1_0 [(⟨(a0.agents.length:Int),p1_1⟩:Port)]).bind fun v8013=>(B3 n a0 a1 v8013 (IntKind.i64.wrap (p1_1+1)))) else ((In a1).bind fun v9006=>((Es a0.agents [v9006]).bind fun v9008=>(some ((a0.ports.length:Int),(⟨v9008,p1_0,a0.cells,a0.vars,a0.ends,a0.pairs⟩:L27Links))))))
def El (a0:L27Links) (a1:ShardCell):Option (Int × L27Links):=
 (if (decide (a1.kind=0))=true then (some ((a0.ports.length:Int),a0)) else (B3 fuel a0 a1 a0.ports 0))
mutual
def B4:Nat→Grid→(List Agent)→(List Port)→(List (List Int))→(List (List Int))→(List (List Int))→(List Int)→(List (List Int))→Int→Int→Option (L27Links × (List Int))
 |0,_,_,_,_,_,_,_,_,_,_=>none
 |n+1,a0,p11_0,p11_1,p11_2,p11_4,p11_5,p11_6,p17_0,p17_1,p17_2=>(if (decide (p17_2<(a0.shards.length:Int)))=true then (De n a0 p11_0 p11_1 p11_2 p11_4 p11_5 p11_6 p17_0 p17_2 p17_1 [] 0) else ((rep? p17_1 []).bind fun v28002=>(some ((⟨p11_0,p11_1,p11_2,p17_0,v28002,p11_5⟩:L27Links),p11_6))))
def De:Nat→Grid→(List Agent)→(List Port)→(List (List Int))→(List (List Int))→(List (List Int))→(List Int)→(List (List Int))→Int→Int→(List Int)→Int→Option (L27Links × (List Int))
 |0,_,_,_,_,_,_,_,_,_,_,_,_=>none
 |n+1,a0,p11_0,p11_1,p11_2,p11_4,p11_5,p11_6,p17_0,p17_2,p21_0,p21_1,p21_2=>((at? a0.shards p17_2).bind fun v23006=>(if (decide (p21_2<(v23006.vars.length:Int)))=true then ((Es p21_1 [p21_0]).bind fun v25003=>(De n a0 p11_0 p11_1 p11_2 p11_4 p11_5 p11_6 p17_0 p17_2 (IntKind.i64.wrap (p21_0+1)) v25003 (IntKind.i64.wrap (p21_2+1)))) else ((Es p17_0 [p21_1]).bind fun v27007=>(B4 n a0 p11_0 p11_1 p11_2 p11_4 p11_5 p11_6 v27007 p21_0 (IntKind.i64.wrap (p17_2+1))))))
end
def Cv:Nat→Grid→(List ShardCell)→(List Agent)→(List Port)→(List (List Int))→(List (List Int))→(List (List Int))→(List (List Int))→(List Int)→Int→Option (L27Links × (List Int))
 |0,_,_,_,_,_,_,_,_,_,_=>none
 |n+1,a0,a1,p11_0,p11_1,p11_2,p11_3,p11_4,p11_5,p11_6,p11_7=>(if (decide (p11_7<(a1.length:Int)))=true then ((at? a1 p11_7).bind fun v16004=>((El (⟨p11_0,p11_1,p11_2,p11_3,p11_4,p11_5⟩:L27Links) v16004).bind fun v16005=>((Es p11_6 [v16005.1]).bind fun v16007=>(Cv n a0 a1 v16005.2.agents v16005.2.ports v16005.2.cells v16005.2.vars v16005.2.ends v16005.2.pairs v16007 (IntKind.i64.wrap (p11_7+1)))))) else (B4 fuel a0 p11_0 p11_1 p11_2 p11_4 p11_5 p11_6 p11_3 (p11_1.length:Int) 0))
mutual
def CW:Nat→Grid→(List ShardCell)→(List Agent)→(List Port)→(List (List Int))→(List (List Int))→(List (List Int))→(List (List Int))→Int→Option (L27Links × (List Int))
 |0,_,_,_,_,_,_,_,_,_=>none
 |n+1,a0,a1,p5_0,p5_1,p5_2,p5_3,p5_4,p5_5,p5_6=>(if (decide (p5_6<(a0.shards.length:Int)))=true then (Df n a0 a1 p5_6 p5_0 p5_1 p5_2 p5_3 p5_4 p5_5 [] 0) else (Cv fuel a0 a1 p5_0 p5_1 p5_2 p5_3 p5_4 p5_5 [] 0))
def Df:Nat→Grid→(List ShardCell)→Int→(List Agent)→(List Port)→(List (List Int))→(List (List Int))→(List (List Int))→(List (List Int))→(List Int)→Int→Option (L27Links × (List Int))
 |0,_,_,_,_,_,_,_,_,_,_,_=>none
 |n+1,a0,a1,p5_6,p9_0,p9_1,p9_2,p9_3,p9_4,p9_5,p9_6,p9_7=>((at? a0.shards p5_6).bind fun v8006=>(if (decide (p9_7<(v8006.cells.length:Int)))=true then ((at? a0.shards p5_6).bind fun v10007=>((at? v10007.cells p9_7).bind fun v10011=>((El (⟨p9_0,p9_1,p9_2,p9_3,p9_4,p9_5⟩:L27Links) v10011).bind fun v10012=>((Es p9_6 [v10012.1]).bind fun v10014=>(Df n a0 a1 p5_6 v10012.2.agents v10012.2.ports v10012.2.cells v10012.2.vars v10012.2.ends v10012.2.pairs v10014 (IntKind.i64.wrap (p9_7+1))))))) else ((Es p9_2 [p9_6]).bind fun v11007=>(CW n a0 a1 p9_0 p9_1 v11007 p9_3 p9_4 p9_5 (IntKind.i64.wrap (p5_6+1))))))
end
def He (a0:Grid) (a1:List ShardCell):Option (L27Links × (List Int)):=
 ((rep? 1 (⟨0,0⟩:Port)).bind fun v2000=>(CW fuel a0 a1 [(⟨1,0,0,[],v2000⟩:Agent)] [(⟨0,0⟩:Port)] [] [] [] [] 0))
def Fy (a0:Grid) (a1:Address):Option (Bool):=
 ((CK a1.machine 0 (IntKind.i64.wrap ((a0.shards.length:Int) - 1))).bind fun v2008=>(if (!v2008)=true then (some false) else ((at? a0.shards a1.machine).bind fun v4006=>(if (decide (a1.kind=1))=true then ((CK a1.index 0 (IntKind.i64.wrap ((v4006.cells.length:Int) - 1))).bind fun v7008=>(if v7008=true then ((at? v4006.cells a1.index).bind fun v7016=>(some (!decide (v7016.kind=0)))) else (some false))) else (if (decide (a1.kind=2))=true then ((CK a1.index 0 (IntKind.i64.wrap ((v4006.vars.length:Int) - 1))).bind fun v9008=>(if v9008=true then ((at? v4006.vars a1.index).bind fun v9016=>(some v9016.used)) else (some false))) else (some false))))))
def Cl (a0:L27Links) (a1:Int) (a2:Int):Option (L27Links):=
 ((Es a0.pairs [[a1,a2]]).bind fun v2009=>((at? a0.ends a1).bind fun v3010=>((Es v3010 [(a0.pairs.length:Int)]).bind fun v3014=>((at? a0.ends a1).bind fun v3015=>((A4 a0.ends a1 v3014).bind fun v3016_2=>((at? v3016_2 a2).bind fun v4010=>((Es v4010 [(a0.pairs.length:Int)]).bind fun v4014=>((at? v3016_2 a2).bind fun v4015=>((A4 v3016_2 a2 v4014).bind fun v4016_3=>(some (⟨a0.agents,a0.ports,a0.cells,a0.vars,v4016_3,v2009⟩:L27Links)))))))))))
def CY (a0:L27Links) (a1:Address):Option (Int):=
 (if (decide (a1.kind=1))=true then ((at? a0.cells a1.machine).bind fun v3006=>((at? v3006 a1.index).bind fun v3010=>(some v3010))) else ((at? a0.vars a1.machine).bind fun v4006=>((at? v4006 a1.index).bind fun v4010=>(some v4010))))
def Cf (a0:L27Links) (a2:Address) (a3:Address) (p0_0:Bool):Option (Bool × L27Links):=
 (if p0_0=true then (some (false,a0)) else ((CY a0 a2).bind fun v4003=>((CY a0 a3).bind fun v4006=>((Cl a0 v4003 v4006).bind fun v4007=>(some (true,v4007))))))
def Bk (a0:L27Links) (a1:Grid) (a2:Address) (a3:Address):Option (Bool × L27Links):=
 ((Fy a1 a2).bind fun v2002=>(if (!v2002)=true then (Cf a0 a2 a3 true) else ((Fy a1 a3).bind fun v2007=>(Cf a0 a2 a3 (!v2007)))))
def Bt:Nat→Grid→ShardCell→Int→(List Agent)→(List Port)→(List (List Int))→(List (List Int))→(List (List Int))→(List (List Int))→Int→Option (Bool × L27Links)
 |0,_,_,_,_,_,_,_,_,_,_=>none
 |n+1,a1,a2,a3,p1_0,p1_1,p1_2,p1_3,p1_4,p1_5,p1_6=>(if (decide (p1_6<(a2.aux.length:Int)))=true then ((at? a2.aux p1_6).bind fun v5006=>((Fy a1 v5006).bind fun v5008=>(if (!v5008)=true then (some (false,(⟨p1_0,p1_1,p1_2,p1_3,p1_4,p1_5⟩:L27Links))) else ((at? a2.aux p1_6).bind fun v7011=>((CY (⟨p1_0,p1_1,p1_2,p1_3,p1_4,p1_5⟩:L27Links) v7011).bind fun v7013=>((Cl (⟨p1_0,p1_1,p1_2,p1_3,p1_4,p1_5⟩:L27Links) (IntKind.i64.wrap ((IntKind.i64.wrap (a3+p1_6))+1)) v7013).bind fun v7014=>(Bt n a1 a2 a3 v7014.agents v7014.ports v7014.cells v7014.vars v7014.ends v7014.pairs (IntKind.i64.wrap (p1_6+1))))))))) else (some (true,(⟨p1_0,p1_1,p1_2,p1_3,p1_4,p1_5⟩:L27Links))))
def EU (a0:L27Links) (a1:Grid) (a2:ShardCell) (a3:Int):Option (Bool × L27Links):=
 (Bt fuel a1 a2 a3 a0.agents a0.ports a0.cells a0.vars a0.ends a0.pairs 0)
mutual
def DS:Nat→Grid→(List Agent)→(List Port)→(List (List Int))→(List (List Int))→(List (List Int))→(List (List Int))→Int→Option (Bool × L27Links)
 |0,_,_,_,_,_,_,_,_=>none
 |n+1,a0,p13_0,p13_1,p13_2,p13_3,p13_4,p13_5,p13_6=>(if (decide (p13_6<(a0.shards.length:Int)))=true then ((at? a0.shards p13_6).bind fun v8005=>(DT n a0 p13_6 v8005 p13_0 p13_1 p13_2 p13_3 p13_4 p13_5 0)) else (some (true,(⟨p13_0,p13_1,p13_2,p13_3,p13_4,p13_5⟩:L27Links))))
def DT:Nat→Grid→Int→Shard→(List Agent)→(List Port)→(List (List Int))→(List (List Int))→(List (List Int))→(List (List Int))→Int→Option (Bool × L27Links)
 |0,_,_,_,_,_,_,_,_,_,_=>none
 |n+1,a0,p13_6,v8005,p21_0,p21_1,p21_2,p21_3,p21_4,p21_5,p21_6=>(if (decide (p21_6<(v8005.cells.length:Int)))=true then ((at? v8005.cells p21_6).bind fun v12007=>((at? p21_2 p13_6).bind fun v12013=>((at? v12013 p21_6).bind fun v12016=>((EU (⟨p21_0,p21_1,p21_2,p21_3,p21_4,p21_5⟩:L27Links) a0 v12007 v12016).bind fun v12018=>(if (!v12018.1)=true then (some (false,v12018.2)) else (DT n a0 p13_6 v8005 v12018.2.agents v12018.2.ports v12018.2.cells v12018.2.vars v12018.2.ends v12018.2.pairs (IntKind.i64.wrap (p21_6+1)))))))) else (DU n a0 p13_6 v8005 p21_0 p21_1 p21_2 p21_3 p21_4 p21_5 0))
def DU:Nat→Grid→Int→Shard→(List Agent)→(List Port)→(List (List Int))→(List (List Int))→(List (List Int))→(List (List Int))→Int→Option (Bool × L27Links)
 |0,_,_,_,_,_,_,_,_,_,_=>none
 |n+1,a0,p13_6,v8005,p23_0,p23_1,p23_2,p23_3,p23_4,p23_5,p23_6=>(if (decide (p23_6<(v8005.redexes.length:Int)))=true then ((at? v8005.redexes p23_6).bind fun v17007=>((at? v8005.redexes p23_6).bind fun v17015=>((Bk (⟨p23_0,p23_1,p23_2,p23_3,p23_4,p23_5⟩:L27Links) a0 v17007.a v17015.b).bind fun v17018=>(if (!v17018.1)=true then (some (false,v17018.2)) else (DU n a0 p13_6 v8005 v17018.2.agents v17018.2.ports v17018.2.cells v17018.2.vars v17018.2.ends v17018.2.pairs (IntKind.i64.wrap (p23_6+1))))))) else (DV n a0 p13_6 v8005 p23_0 p23_1 p23_2 p23_3 p23_4 p23_5 0))
def DV:Nat→Grid→Int→Shard→(List Agent)→(List Port)→(List (List Int))→(List (List Int))→(List (List Int))→(List (List Int))→Int→Option (Bool × L27Links)
 |0,_,_,_,_,_,_,_,_,_,_=>none
 |n+1,a0,p13_6,v8005,p24_0,p24_1,p24_2,p24_3,p24_4,p24_5,p24_6=>(if (decide (p24_6<(v8005.vars.length:Int)))=true then ((at? v8005.vars p24_6).bind fun v22005=>(if v22005.full=true then ((at? v8005.vars p24_6).bind fun v22019=>((Bk (⟨p24_0,p24_1,p24_2,p24_3,p24_4,p24_5⟩:L27Links) a0 (⟨p13_6,2,p24_6⟩:Address) v22019.held).bind fun v22022=>(Ew n a0 p13_6 p24_6 v8005 v22022.2.agents v22022.2.ports v22022.2.cells v22022.2.vars v22022.2.ends v22022.2.pairs (!v22022.1)))) else (Ew n a0 p13_6 p24_6 v8005 p24_0 p24_1 p24_2 p24_3 p24_4 p24_5 false))) else (DS n a0 p24_0 p24_1 p24_2 p24_3 p24_4 p24_5 (IntKind.i64.wrap (p13_6+1))))
def Ew:Nat→Grid→Int→Int→Shard→(List Agent)→(List Port)→(List (List Int))→(List (List Int))→(List (List Int))→(List (List Int))→Bool→Option (Bool × L27Links)
 |0,_,_,_,_,_,_,_,_,_,_,_=>none
 |n+1,a0,p13_6,p24_6,v8005,p25_0,p25_1,p25_2,p25_3,p25_4,p25_5,p25_6=>(if p25_6=true then (some (false,(⟨p25_0,p25_1,p25_2,p25_3,p25_4,p25_5⟩:L27Links))) else (DV n a0 p13_6 v8005 p25_0 p25_1 p25_2 p25_3 p25_4 p25_5 (IntKind.i64.wrap (p24_6+1))))
end
def JG (a0:Grid) (a1:L27Links):Option (Bool × L27Links):=
 ((Fy a0 a0.root).bind fun v2005=>(if (!v2005)=true then (some (false,a1)) else ((CY a1 a0.root).bind fun v4006=>((Cl a1 0 v4006).bind fun v4007=>(DS fuel a0 v4007.agents v4007.ports v4007.cells v4007.vars v4007.ends v4007.pairs 0)))))
mutual
def BG:Nat→Cluster→(L27Links × (List Int))→(List Agent)→(List Port)→(List (List Int))→(List (List Int))→(List (List Int))→(List (List Int))→Int→Int→Option (L27Links × Bool)
 |0,_,_,_,_,_,_,_,_,_,_=>none
 |n+1,a0,v11004,p13_0,p13_1,p13_2,p13_3,p13_4,p13_5,p13_6,p13_7=>(if (decide (p13_7<(a0.channels.length:Int)))=true then (BH n a0 p13_7 v11004 p13_0 p13_1 p13_2 p13_3 p13_4 p13_5 p13_6 0) else (some ((⟨p13_0,p13_1,p13_2,p13_3,p13_4,p13_5⟩:L27Links),true)))
def BH:Nat→Cluster→Int→(L27Links × (List Int))→(List Agent)→(List Port)→(List (List Int))→(List (List Int))→(List (List Int))→(List (List Int))→Int→Int→Option (L27Links × Bool)
 |0,_,_,_,_,_,_,_,_,_,_,_=>none
 |n+1,a0,p13_7,v11004,p17_0,p17_1,p17_2,p17_3,p17_4,p17_5,p17_6,p17_7=>((at? a0.channels p13_7).bind fun v19006=>(if (decide (p17_7<(v19006.length:Int)))=true then ((at? a0.channels p13_7).bind fun v21005=>((at? v21005 p17_7).bind fun v21008=>(if (decide (v21008.kind=1))=true then (B5 n a0 p13_7 p17_0 p17_1 p17_2 p17_3 p17_4 p17_5 p17_6 p17_7 v11004 v21008 (decide (v21008.kind=1))) else (B5 n a0 p13_7 p17_0 p17_1 p17_2 p17_3 p17_4 p17_5 p17_6 p17_7 v11004 v21008 (decide (v21008.kind=2)))))) else (BG n a0 v11004 p17_0 p17_1 p17_2 p17_3 p17_4 p17_5 p17_6 (IntKind.i64.wrap (p13_7+1)))))
def B5:Nat→Cluster→Int→(List Agent)→(List Port)→(List (List Int))→(List (List Int))→(List (List Int))→(List (List Int))→Int→Int→(L27Links × (List Int))→Parcel→Bool→Option (L27Links × Bool)
 |0,_,_,_,_,_,_,_,_,_,_,_,_,_=>none
 |n+1,a0,p13_7,p17_0,p17_1,p17_2,p17_3,p17_4,p17_5,p17_6,p17_7,v11004,v21008,p18_0=>(if p18_0=true then ((Bk (⟨p17_0,p17_1,p17_2,p17_3,p17_4,p17_5⟩:L27Links) a0.grid v21008.a v21008.b).bind fun v25012=>(if (!v25012.1)=true then (some (v25012.2,false)) else (BH n a0 p13_7 v11004 v25012.2.agents v25012.2.ports v25012.2.cells v25012.2.vars v25012.2.ends v25012.2.pairs p17_6 (IntKind.i64.wrap (p17_7+1))))) else (if (decide (v21008.kind=3))=true then ((at? v11004.2 p17_6).bind fun v28009=>((EU (⟨p17_0,p17_1,p17_2,p17_3,p17_4,p17_5⟩:L27Links) a0.grid v21008.cell v28009).bind fun v28011=>(if (!v28011.1)=true then (C7 n a0 p13_7 p17_6 p17_7 v11004 v21008 v28011 true) else ((Fy a0.grid v21008.b).bind fun v28021=>(C7 n a0 p13_7 p17_6 p17_7 v11004 v21008 v28011 (!v28021)))))) else (BH n a0 p13_7 v11004 p17_0 p17_1 p17_2 p17_3 p17_4 p17_5 p17_6 (IntKind.i64.wrap (p17_7+1)))))
def C7:Nat→Cluster→Int→Int→Int→(L27Links × (List Int))→Parcel→(Bool × L27Links)→Bool→Option (L27Links × Bool)
 |0,_,_,_,_,_,_,_,_=>none
 |n+1,a0,p13_7,p17_6,p17_7,v11004,v21008,v28011,p19_0=>(if p19_0=true then (some (v28011.2,false)) else ((at? v11004.2 p17_6).bind fun v30003=>((CY v28011.2 v21008.b).bind fun v30010=>((Cl v28011.2 v30003 v30010).bind fun v30011=>(BH n a0 p13_7 v11004 v30011.agents v30011.ports v30011.cells v30011.vars v30011.ends v30011.pairs (IntKind.i64.wrap (p17_6+1)) (IntKind.i64.wrap (p17_7+1)))))))
end
mutual
def B6:Nat→Cluster→(List ShardCell)→Int→Option (L27Links × Bool)
 |0,_,_,_=>none
 |n+1,a0,p3_0,p3_1=>(if (decide (p3_1<(a0.channels.length:Int)))=true then (B7 n a0 p3_1 p3_0 0) else ((He a0.grid p3_0).bind fun v11004=>((JG a0.grid v11004.1).bind fun v12004=>(if (!v12004.1)=true then (some (v12004.2,false)) else (BG fuel a0 v11004 v12004.2.agents v12004.2.ports v12004.2.cells v12004.2.vars v12004.2.ends v12004.2.pairs 0 0)))))
def B7:Nat→Cluster→Int→(List ShardCell)→Int→Option (L27Links × Bool)
 |0,_,_,_,_=>none
 |n+1,a0,p3_1,p5_0,p5_1=>((at? a0.channels p3_1).bind fun v7006=>(if (decide (p5_1<(v7006.length:Int)))=true then ((at? a0.channels p3_1).bind fun v9005=>((at? v9005 p5_1).bind fun v9008=>(if (decide (v9008.kind=3))=true then ((at? a0.channels p3_1).bind fun v10006=>((at? v10006 p5_1).bind fun v10009=>((Es p5_0 [v10009.cell]).bind fun v10013=>(B7 n a0 p3_1 v10013 (IntKind.i64.wrap (p5_1+1)))))) else (B7 n a0 p3_1 p5_0 (IntKind.i64.wrap (p5_1+1)))))) else (B6 n a0 p5_0 (IntKind.i64.wrap (p3_1+1)))))
end
def Hf (a0:Cluster):Option (L27Links × Bool):=
 (B6 fuel a0 [] 0)
mutual
def Bl:Nat→Grid→L27Links→Int→Option (Bool)
 |0,_,_,_=>none
 |n+1,a0,a1,p1_0=>(if (decide (p1_0<(a0.shards.length:Int)))=true then (CG n a0 a1 p1_0 0) else (some true))
def CG:Nat→Grid→L27Links→Int→Int→Option (Bool)
 |0,_,_,_,_=>none
 |n+1,a0,a1,p1_0,p2_0=>((at? a0.shards p1_0).bind fun v11006=>(if (decide (p2_0<(v11006.vars.length:Int)))=true then ((at? a0.shards p1_0).bind fun v13005=>((at? v13005.vars p2_0).bind fun v13009=>(if v13009.used=true then ((at? a1.vars p1_0).bind fun v13022=>((at? v13022 p2_0).bind fun v13025=>((at? a1.ends v13025).bind fun v13027=>(Dv n a0 a1 p1_0 p2_0 (!decide ((v13027.length:Int)=2)))))) else (Dv n a0 a1 p1_0 p2_0 false)))) else (Bl n a0 a1 (IntKind.i64.wrap (p1_0+1)))))
def Dv:Nat→Grid→L27Links→Int→Int→Bool→Option (Bool)
 |0,_,_,_,_,_=>none
 |n+1,a0,a1,p1_0,p2_0,p3_0=>(if p3_0=true then (some false) else (CG n a0 a1 p1_0 (IntKind.i64.wrap (p2_0+1))))
end
def Dg:Nat→Grid→L27Links→Int→Option (Bool)
 |0,_,_,_=>none
 |n+1,a0,a1,p0_0=>(if (decide (p0_0<(a1.ports.length:Int)))=true then ((at? a1.ends p0_0).bind fun v5005=>(if (!decide ((v5005.length:Int)=1))=true then (some false) else (Dg n a0 a1 (IntKind.i64.wrap (p0_0+1))))) else (Bl fuel a0 a1 0))
def Hr (a0:Grid) (a1:L27Links):Option (Bool):=
 (Dg fuel a0 a1 0)
def Qa (a0:Cluster):Option (Bool):=
 ((JF a0).bind fun v2001=>(if (!v2001)=true then (some false) else ((Hf a0).bind fun v4001=>(if v4001.2 =true then ((Hr a0.grid v4001.1).bind fun v5006=>(some v5006)) else (some false)))))
end Go.Proofs.YtclmbjbbojdojaaGreat.Ab
