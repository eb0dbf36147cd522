/-
  Data of the program as Lean types; how they lie in memory. Printed by wip/ab/gen.py.
-/
import Derived.Test.YtoncbhomocgmcaaGreatDoorAbY
import Derived.Test.YtoncbhomocgmcaaGreatDoorManL
import Derived.Test.YtoncbhomocgmcaaGreatDoorModC
namespace Go.Proofs.YtoncbhomocgmcaaGreatDoor.Ab
set_option linter.unusedVariables false
set_option linter.unusedSimpArgs false
set_option maxRecDepth 20000
set_option maxHeartbeats 4000000
open Go.RowKit
structure Reading where
 net:Net
 entered:Int
 nodes:Int
 origins:List Int
 times:List Int
 labels:List ByteArray
def Reading.ds (c:Reading):List D:=[.sl (c.net.agents.map Agent.ds),.int .i64 c.entered,.int .i64 c.nodes,.sl (c.origins.map AB),.sl (c.times.map AB),.sl (c.labels.map AT)]
theorem Reading.ds_eq (c:Reading):c.ds=[.sl (c.net.agents.map Agent.ds),.int .i64 c.entered,.int .i64 c.nodes,.sl (c.origins.map AB),.sl (c.times.map AB),.sl (c.labels.map AT)] :=rfl
@[go_sem] def Reading.avs (c:Reading):List AV:=[.ro (c.net.agents.map Agent.ds),.int .i64 c.entered,.int .i64 c.nodes,.ro (c.origins.map AB),.ro (c.times.map AB),.ro (c.labels.map AT)]
@[go_sem] def Reading.rv (c:Reading):List RV:=[.ow (some 5) (c.net.agents.map Agent.ds),.int .i64 c.entered,.int .i64 c.nodes,.ow (some 1) (c.origins.map AB),.ow (some 1) (c.times.map AB),.ow (some 1) (c.labels.map AT)]
@[go_sem] def Reading.rvn (c:Reading):List RV:=[.ow none (c.net.agents.map Agent.ds),.int .i64 c.entered,.int .i64 c.nodes,.ow none (c.origins.map AB),.ow none (c.times.map AB),.ow none (c.labels.map AT)]
attribute [go_sem] Reading.ds_eq
theorem Reading.ds_len (c:Reading):c.ds.length=6:=by rw [Reading.ds_eq]; rfl
def Reading.dz (c:Reading):List D:=[.fz (c.net.agents.map Agent.ds),.int .i64 c.entered,.int .i64 c.nodes,.fz (c.origins.map AB),.fz (c.times.map AB),.fz (c.labels.map AT)]
@[go_sem] theorem Reading.dz_eq (c:Reading):c.dz=[.fz (c.net.agents.map Agent.ds),.int .i64 c.entered,.int .i64 c.nodes,.fz (c.origins.map AB),.fz (c.times.map AB),.fz (c.labels.map AT)] :=rfl
theorem Reading.dz_fz (c:Reading):fzC c.ds=c.dz:=by rw [Reading.ds_eq]; rfl
theorem Reading.dz_ng (c:Reading):∀d ∈ c.ds,d≠ .gone :=by rw [Reading.ds_eq]; exact Ik rfl
@[go_sem] theorem Reading.dz_er (l:List Reading):erR (l.map Reading.dz)=List.map Reading.ds l:=C1 (fun c=>by rw [Reading.ds_eq]; simp only [Reading.dz,erC,er]) l
def BT (a0:Reading) (a1:Port) (p0_0:Bool):Option (Int × Reading):=
 (if p0_0=true then ((at? a0.times a1.agent).bind fun v7006=>((at? a0.times a1.agent).bind fun v7009=>((CL a0.times a1.agent (IntKind.i64.wrap (v7006+1))).bind fun v7010_2=>(some (0,(⟨a0.net,(IntKind.i64.wrap (a0.entered+1)),a0.nodes,a0.origins,v7010_2,a0.labels⟩:Reading)))))) else (some (0,(⟨a0.net,(IntKind.i64.wrap (a0.entered+1)),a0.nodes,a0.origins,a0.times,a0.labels⟩:Reading))))
def Ck (a0:Reading) (a1:Port):Option (Int × Reading):=
 (if (decide (4000<(IntKind.i64.wrap (a0.entered+1))))=true then (some (4,(⟨a0.net,(IntKind.i64.wrap (a0.entered+1)),a0.nodes,a0.origins,a0.times,a0.labels⟩:Reading))) else ((at? a0.net.agents a1.agent).bind fun v5007=>(if (!decide (v5007.kind=4))=true then (if (decide (v5007.kind=2))=true then (BT a0 a1 (!(decide (a1.slot=1)))) else (BT a0 a1 true)) else (BT a0 a1 false))))
def E8 (a0:Port):Option (ByteArray):=
 ((EO a0.agent).bind fun v2002=>((D6 v2002 (ByteArray.mk #[46])).bind fun v2003=>((EO a0.slot).bind fun v2006=>((D6 v2003 v2006).bind fun v2007=>((D6 v2007 (ByteArray.mk #[59])).bind fun v2008=>(some v2008))))))
def Bp (a0:Reading) (a1:Port) (a2:Stacks):Option (Port × Bool × Stacks):=
 ((at? a0.net.agents a1.agent).bind fun v2007=>(if (decide (0<a1.slot))=true then ((at? [a2.e0,a2.e1,a2.e2,a2.e3,a2.e4,a2.e5,a2.e6,a2.e7,a2.e8] v2007.level).bind fun v4007=>((at? [a2.e0,a2.e1,a2.e2,a2.e3,a2.e4,a2.e5,a2.e6,a2.e7,a2.e8] v2007.level).bind fun v4012=>((CL [a2.e0,a2.e1,a2.e2,a2.e3,a2.e4,a2.e5,a2.e6,a2.e7,a2.e8] v2007.level (some (⟨a1.slot,v4007⟩:Stack))).bind fun v4013_7=>((Stacks.of? v4013_7).bind fun v4013_8=>((CB a0.net (⟨a1.agent,0⟩:Port)).bind fun v5006=>(some (v5006,true,v4013_8))))))) else ((at? [a2.e0,a2.e1,a2.e2,a2.e3,a2.e4,a2.e5,a2.e6,a2.e7,a2.e8] v2007.level).bind fun v6003=>(Xs v6003 (some ((⟨0,0⟩:Port),false,a2)) (fun v7001_8n=>((at? [a2.e0,a2.e1,a2.e2,a2.e3,a2.e4,a2.e5,a2.e6,a2.e7,a2.e8] v2007.level).bind fun v9007=>((CL [a2.e0,a2.e1,a2.e2,a2.e3,a2.e4,a2.e5,a2.e6,a2.e7,a2.e8] v2007.level v7001_8n.rest).bind fun v9008_11=>((Stacks.of? v9008_11).bind fun v9008_12=>((CB a0.net (⟨a1.agent,v7001_8n.port⟩:Port)).bind fun v10010=>(some (v10010,true,v9008_12)))))))))))
def Ew (a0:Int):Option (Core):=
 (some (⟨2,a0,[],[]⟩:Core))
def Ao:Nat→Stacks→Stacks→Int→Int→Option (Bool)
 |0,_,_,_,_=>none
 |n+1,a0,a1,a2,p1_0=>(if (decide (p1_0<a2))=true then ((at? [a0.e0,a0.e1,a0.e2,a0.e3,a0.e4,a0.e5,a0.e6,a0.e7,a0.e8] p1_0).bind fun v5001=>((at? [a1.e0,a1.e1,a1.e2,a1.e3,a1.e4,a1.e5,a1.e6,a1.e7,a1.e8] p1_0).bind fun v5004=>((Im v5001 v5004).bind fun v5006=>(if (!v5006)=true then (some false) else (Ao n a0 a1 a2 (IntKind.i64.wrap (p1_0+1))))))) else (some true))
def CS (a0:Stacks) (a1:Stacks) (a2:Int):Option (Bool):=
 (Ao fuel a0 a1 a2 0)
mutual
def Ah:Nat→Reading→Int→Stacks→(Option ReadBinder)→Int→Option (Int)
 |0,_,_,_,_,_=>none
 |n+1,a0,a1,a2,p2_0,p2_1=>(Xs p2_0 (some (-1)) (fun v3001_8nnn=>(if (decide (v3001_8nnn.lam=a1))=true then ((at? a0.net.agents a1).bind fun v5018=>((CS a2 v3001_8nnn.stacks v5018.level).bind fun v5021=>(A4 n a0 a1 a2 p2_1 v3001_8nnn v5021))) else (A4 n a0 a1 a2 p2_1 v3001_8nnn false))))
def A4:Nat→Reading→Int→Stacks→Int→ReadBinder→Bool→Option (Int)
 |0,_,_,_,_,_,_=>none
 |n+1,a0,a1,a2,p2_1,v3001_8nnn,p3_0=>(if p3_0=true then (some p2_1) else (Ah n a0 a1 a2 v3001_8nnn.rest (IntKind.i64.wrap (p2_1+1))))
end
def Bl (a0:Reading) (a1:Int) (a2:Stacks) (a3:Option ReadBinder):Option (Int):=
 (Ah fuel a0 a1 a2 a3 0)
def JA (a0:Int):Option (Core):=
 (some (⟨1,a0,[],[]⟩:Core))
def C8 (a0:List Int):Option ((List Int)):=
 ((app? [] a0).bind fun v4002=>(some v4002))
def JB (a0:Int):Option (Core):=
 (some (⟨11,a0,[],[]⟩:Core))
def Ap:Nat→Agent→(List Int)→Int→Option (Core × (List Int) × Bool)
 |0,_,_,_=>none
 |n+1,v2007,p11_0,p11_1=>(if (decide (p11_1<(v2007.ports.length:Int)))=true then ((app? p11_0 [p11_1]).bind fun v21003=>(Ap n v2007 v21003 (IntKind.i64.wrap (p11_1+1)))) else (some ((⟨8,v2007.value,[],[]⟩:Core),p11_0,true)))
def CE (v2007:Agent) (p9_0:Bool):Option (Core × (List Int) × Bool):=
 (if p9_0=true then ((C8 v2007.data).bind fun v26002=>(some ((⟨10,0,v26002,[]⟩:Core),[0],true))) else (if (decide (v2007.kind=12))=true then ((JB v2007.value).bind fun v28002=>(some ((⟨v28002.kind,v28002.value,[],[]⟩:Core),[],true))) else (some ((⟨0,0,[],[]⟩:Core),[],false))))
def CT (a1:Port) (v2007:Agent) (p8_0:Bool):Option (Core × (List Int) × Bool):=
 (if p8_0=true then ((C8 v2007.data).bind fun v24002=>(some ((⟨9,0,v24002,[]⟩:Core),[0],true))) else (if (decide (v2007.kind=11))=true then (CE v2007 (decide (a1.slot=1))) else (CE v2007 false)))
def CU (a1:Port) (v2007:Agent) (p5_0:Bool):Option (Core × (List Int) × Bool):=
 (if p5_0=true then (Ap fuel v2007 [] 1) else (if (decide (v2007.kind=10))=true then (CT a1 v2007 (decide (a1.slot=1))) else (CT a1 v2007 false)))
def CV (a1:Port) (v2007:Agent) (p4_0:Bool):Option (Core × (List Int) × Bool):=
 (if p4_0=true then (some ((⟨3,v2007.value,[],[]⟩:Core),[0],true)) else (if (decide (v2007.kind=9))=true then (CU a1 v2007 (decide (a1.slot=0))) else (CU a1 v2007 false)))
def CW (a1:Port) (v2007:Agent) (p3_0:Bool):Option (Core × (List Int) × Bool):=
 (if p3_0=true then (some ((⟨3,v2007.value,[],[]⟩:Core),[0,1],true)) else (if (decide (v2007.kind=8))=true then (CV a1 v2007 (decide (a1.slot=1))) else (CV a1 v2007 false)))
def CX (a1:Port) (v2007:Agent) (p2_0:Bool):Option (Core × (List Int) × Bool):=
 (if p2_0=true then (some ((⟨5,0,[],[]⟩:Core),[0,1],true)) else (if (decide (v2007.kind=6))=true then ((Ew v2007.value).bind fun v11002=>(some ((⟨v11002.kind,v11002.value,[],[]⟩:Core),[],true))) else (if (decide (v2007.kind=7))=true then (CW a1 v2007 (decide (a1.slot=2))) else (CW a1 v2007 false))))
def CY (a0:Reading) (a1:Port) (a2:Stacks) (a3:Option ReadBinder) (v2007:Agent) (p1_0:Bool):Option (Core × (List Int) × Bool):=
 (if p1_0=true then ((Bl a0 a1.agent a2 a3).bind fun v6005=>((JA v6005).bind fun v7001=>(some ((⟨v7001.kind,v7001.value,[],[]⟩:Core),[],(decide (0≤v6005)))))) else (if (decide (v2007.kind=3))=true then (CX a1 v2007 (decide (a1.slot=2))) else (CX a1 v2007 false)))
def CZ (a0:Reading) (a1:Port) (a2:Stacks) (a3:Option ReadBinder) (v2007:Agent) (p0_0:Bool):Option (Core × (List Int) × Bool):=
 (if p0_0=true then (some ((⟨4,0,[],[]⟩:Core),[2],true)) else (if (decide (v2007.kind=2))=true then (CY a0 a1 a2 a3 v2007 (decide (a1.slot=1))) else (CY a0 a1 a2 a3 v2007 false)))
def DW (a0:Reading) (a1:Port) (a2:Stacks) (a3:Option ReadBinder):Option (Core × (List Int) × Bool):=
 ((at? a0.net.agents a1.agent).bind fun v2007=>(if (decide (v2007.kind=2))=true then (CZ a0 a1 a2 a3 v2007 (decide (a1.slot=0))) else (CZ a0 a1 a2 a3 v2007 false)))
def B7 (a0:Reading) (a1:Int) (a2:ByteArray) (p0_0:Bool):Option (Int × Reading):=
 (if p0_0=true then (some (4,a0)) else ((app? a0.origins [a1]).bind fun v5007=>((app? a0.labels [a2]).bind fun v6007=>(some (0,(⟨a0.net,a0.entered,(IntKind.i64.wrap (a0.nodes+1)),v5007,a0.times,v6007⟩:Reading))))))
def Bz (a0:Reading) (a1:Int) (a2:ByteArray) (a3:Int):Option (Int × Reading):=
 (if (decide (a0.nodes=400))=true then (B7 a0 a1 a2 true) else (B7 a0 a1 a2 (decide (80<a3))))
mutual
def B0:Nat→Reading→Port→Stacks→(Option ReadBinder)→Int→Option (Core × Int × Reading)
 |0,_,_,_,_,_=>none
 |n+1,a0,a1,a2,a3,a4=>(BJ n a0 a3 a4 a0.entered a0.nodes a0.origins a0.times a0.labels a1.agent a1.slot a2.e0 a2.e1 a2.e2 a2.e3 a2.e4 a2.e5 a2.e6 a2.e7 a2.e8 (ByteArray.mk #[]))
def BJ:Nat→Reading→(Option ReadBinder)→Int→Int→Int→(List Int)→(List Int)→(List ByteArray)→Int→Int→(Option Stack)→(Option Stack)→(Option Stack)→(Option Stack)→(Option Stack)→(Option Stack)→(Option Stack)→(Option Stack)→(Option Stack)→ByteArray→Option (Core × Int × Reading)
 |0,_,_,_,_,_,_,_,_,_,_,_,_,_,_,_,_,_,_,_,_=>none
 |n+1,a0,a3,a4,p1_0,p1_1,p1_2,p1_3,p1_4,p1_5,p1_6,p1_7,p1_8,p1_9,p1_10,p1_11,p1_12,p1_13,p1_14,p1_15,p1_16=>((Ck (⟨a0.net,p1_0,p1_1,p1_2,p1_3,p1_4⟩:Reading) (⟨p1_5,p1_6⟩:Port)).bind fun v3002=>(if (!decide (v3002.1 =0))=true then (some ((⟨0,0,[],[]⟩:Core),v3002.1,(⟨a0.net,v3002.2.entered,v3002.2.nodes,v3002.2.origins,v3002.2.times,v3002.2.labels⟩:Reading))) else ((E8 (⟨p1_5,p1_6⟩:Port)).bind fun v6002=>((D6 p1_16 v6002).bind fun v6003=>((at? a0.net.agents p1_5).bind fun v7007=>(if (!decide (v7007.kind=4))=true then ((DW (⟨a0.net,v3002.2.entered,v3002.2.nodes,v3002.2.origins,v3002.2.times,v3002.2.labels⟩:Reading) (⟨p1_5,p1_6⟩:Port) (⟨p1_7,p1_8,p1_9,p1_10,p1_11,p1_12,p1_13,p1_14,p1_15⟩:Stacks) a3).bind fun v12004=>(if (!v12004.2.2)=true then (some ((⟨0,0,[],[]⟩:Core),13,(⟨a0.net,v3002.2.entered,v3002.2.nodes,v3002.2.origins,v3002.2.times,v3002.2.labels⟩:Reading))) else ((Bz (⟨a0.net,v3002.2.entered,v3002.2.nodes,v3002.2.origins,v3002.2.times,v3002.2.labels⟩:Reading) p1_5 v6003 a4).bind fun v15005=>(if (!decide (v15005.1 =0))=true then (some ((⟨0,0,[],[]⟩:Core),v15005.1,(⟨a0.net,v15005.2.entered,v15005.2.nodes,v15005.2.origins,v15005.2.times,v15005.2.labels⟩:Reading))) else ((at? a0.net.agents p1_5).bind fun v18007=>(if (decide (v18007.kind=8))=true then ((EO p1_5).bind fun v20003=>((D6 v20003 (ByteArray.mk #[46,120,59])).bind fun v20004=>((Bz (⟨a0.net,v15005.2.entered,v15005.2.nodes,v15005.2.origins,v15005.2.times,v15005.2.labels⟩:Reading) (-1) v20004 (IntKind.i64.wrap (a4+1))).bind fun v20007=>(if (!decide (v20007.1 =0))=true then (some ((⟨0,0,[],[]⟩:Core),v20007.1,(⟨a0.net,v20007.2.entered,v20007.2.nodes,v20007.2.origins,v20007.2.times,v20007.2.labels⟩:Reading))) else ((at? v18007.data 0).bind fun v23004=>((Ew v23004).bind fun v23006=>((app? v12004.1.kids [(⟨v23006.kind,v23006.value,[],[]⟩:Core)]).bind fun v23008=>(Am n a0 a4 p1_5 p1_6 p1_7 p1_8 p1_9 p1_10 p1_11 p1_12 p1_13 p1_14 p1_15 v12004 v20007.2.entered v20007.2.nodes v20007.2.origins v20007.2.times v20007.2.labels a3 v23008)))))))) else (if (decide (v12004.1.kind =4))=true then (Am n a0 a4 p1_5 p1_6 p1_7 p1_8 p1_9 p1_10 p1_11 p1_12 p1_13 p1_14 p1_15 v12004 v15005.2.entered v15005.2.nodes v15005.2.origins v15005.2.times v15005.2.labels (some (⟨p1_5,(⟨p1_7,p1_8,p1_9,p1_10,p1_11,p1_12,p1_13,p1_14,p1_15⟩:Stacks),a3⟩:ReadBinder)) v12004.1.kids) else (Am n a0 a4 p1_5 p1_6 p1_7 p1_8 p1_9 p1_10 p1_11 p1_12 p1_13 p1_14 p1_15 v12004 v15005.2.entered v15005.2.nodes v15005.2.origins v15005.2.times v15005.2.labels a3 v12004.1.kids)))))))) else ((Bp (⟨a0.net,v3002.2.entered,v3002.2.nodes,v3002.2.origins,v3002.2.times,v3002.2.labels⟩:Reading) (⟨p1_5,p1_6⟩:Port) (⟨p1_7,p1_8,p1_9,p1_10,p1_11,p1_12,p1_13,p1_14,p1_15⟩:Stacks)).bind fun v8002=>(if (!v8002.2.1)=true then (some ((⟨0,0,[],[]⟩:Core),13,(⟨a0.net,v3002.2.entered,v3002.2.nodes,v3002.2.origins,v3002.2.times,v3002.2.labels⟩:Reading))) else (BJ n a0 a3 a4 v3002.2.entered v3002.2.nodes v3002.2.origins v3002.2.times v3002.2.labels v8002.1.agent v8002.1.slot v8002.2.2.e0 v8002.2.2.e1 v8002.2.2.e2 v8002.2.2.e3 v8002.2.2.e4 v8002.2.2.e5 v8002.2.2.e6 v8002.2.2.e7 v8002.2.2.e8 v6003)))))))))
def Am:Nat→Reading→Int→Int→Int→(Option Stack)→(Option Stack)→(Option Stack)→(Option Stack)→(Option Stack)→(Option Stack)→(Option Stack)→(Option Stack)→(Option Stack)→(Core × (List Int) × Bool)→Int→Int→(List Int)→(List Int)→(List ByteArray)→(Option ReadBinder)→(List Core)→Option (Core × Int × Reading)
 |0,_,_,_,_,_,_,_,_,_,_,_,_,_,_,_,_,_,_,_,_,_=>none
 |n+1,a0,a4,p1_5,p1_6,p1_7,p1_8,p1_9,p1_10,p1_11,p1_12,p1_13,p1_14,p1_15,v12004,p2_0,p2_1,p2_2,p2_3,p2_4,p2_5,p2_6=>(BK n a0 a4 p1_5 p1_6 p1_7 p1_8 p1_9 p1_10 p1_11 p1_12 p1_13 p1_14 p1_15 p2_5 v12004 p2_0 p2_1 p2_2 p2_3 p2_4 p2_6 0)
def BK:Nat→Reading→Int→Int→Int→(Option Stack)→(Option Stack)→(Option Stack)→(Option Stack)→(Option Stack)→(Option Stack)→(Option Stack)→(Option Stack)→(Option Stack)→(Option ReadBinder)→(Core × (List Int) × Bool)→Int→Int→(List Int)→(List Int)→(List ByteArray)→(List Core)→Int→Option (Core × Int × Reading)
 |0,_,_,_,_,_,_,_,_,_,_,_,_,_,_,_,_,_,_,_,_,_,_=>none
 |n+1,a0,a4,p1_5,p1_6,p1_7,p1_8,p1_9,p1_10,p1_11,p1_12,p1_13,p1_14,p1_15,p2_5,v12004,p4_0,p4_1,p4_2,p4_3,p4_4,p4_5,p4_6=>(if (decide (p4_6<((List.length v12004.2.1 :Nat):Int)))=true then ((at? v12004.2.1 p4_6).bind fun v28000=>((CB a0.net (⟨p1_5,v28000⟩:Port)).bind fun v29008=>((B0 n (⟨a0.net,p4_0,p4_1,p4_2,p4_3,p4_4⟩:Reading) v29008 (⟨p1_7,p1_8,p1_9,p1_10,p1_11,p1_12,p1_13,p1_14,p1_15⟩:Stacks) p2_5 (IntKind.i64.wrap (a4+1))).bind fun v29013=>(if (!decide (v29013.2.1 =0))=true then (some ((⟨0,0,[],[]⟩:Core),v29013.2.1,(⟨a0.net,v29013.2.2.entered,v29013.2.2.nodes,v29013.2.2.origins,v29013.2.2.times,v29013.2.2.labels⟩:Reading))) else ((app? p4_5 [v29013.1]).bind fun v32004=>(BK n a0 a4 p1_5 p1_6 p1_7 p1_8 p1_9 p1_10 p1_11 p1_12 p1_13 p1_14 p1_15 p2_5 v12004 v29013.2.2.entered v29013.2.2.nodes v29013.2.2.origins v29013.2.2.times v29013.2.2.labels v32004 (IntKind.i64.wrap (p4_6+1)))))))) else (some ((⟨v12004.1.kind,v12004.1.value,v12004.1.data,p4_5⟩:Core),0,(⟨a0.net,p4_0,p4_1,p4_2,p4_3,p4_4⟩:Reading))))
end
def Dv (a0:Net):Option (Reading × Core × Int):=
 ((DI a0).bind fun v2001=>(if (!v2001)=true then (some ((⟨(⟨[]⟩:Net),0,0,[],[],[]⟩:Reading),(⟨0,0,[],[]⟩:Core),1)) else ((Qb (a0.agents.length:Int) (0:Int)).bind fun v4004=>((CB a0 (⟨0,0⟩:Port)).bind fun v5002=>((B0 fuel (⟨a0,0,0,[],v4004,[]⟩:Reading) v5002 (⟨none,none,none,none,none,none,none,none,none⟩:Stacks) none 1).bind fun v5004=>(some ((⟨a0,v5004.2.2.entered,v5004.2.2.nodes,v5004.2.2.origins,v5004.2.2.times,v5004.2.2.labels⟩:Reading),v5004.1,v5004.2.1)))))))
end Go.Proofs.YtoncbhomocgmcaaGreatDoor.Ab
