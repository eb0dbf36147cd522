/-
  Data of the program as Lean types; how they lie in memory. Printed by wip/ab/gen.py.
-/
import Derived.Test.YtoncbhomocgmcaaGreatDoorAbY
import Derived.Test.YtoncbhomocgmcaaGreatDoorModC
namespace Go.Proofs.YtoncbhomocgmcaaGreatDoor.Ab
set_option linter.unusedVariables false
set_option linter.unusedSimpArgs false
set_option maxRecDepth 20000
set_option maxHeartbeats 4000000
open Go.RowKit
structure L16Walk where
 n:Net
 steps:Int
 nodes:Int
 entered:List Int
 origins:List Int
 labels:List ByteArray
 code:Int
def L16Walk.ds (c:L16Walk):List D:=[.ptr (Net.ds c.n),.int .i64 c.steps,.int .i64 c.nodes,.sl (c.entered.map AB),.sl (c.origins.map AB),.sl (c.labels.map AT),.int .i64 c.code]
theorem L16Walk.ds_eq (c:L16Walk):c.ds=[.ptr (Net.ds c.n),.int .i64 c.steps,.int .i64 c.nodes,.sl (c.entered.map AB),.sl (c.origins.map AB),.sl (c.labels.map AT),.int .i64 c.code] :=rfl
@[go_sem] def L16Walk.avs (c:L16Walk):List AV:=[.rop [.ro (c.n.agents.map Agent.ds)] 0,.int .i64 c.steps,.int .i64 c.nodes,.ro (c.entered.map AB),.ro (c.origins.map AB),.ro (c.labels.map AT),.int .i64 c.code]
attribute [go_sem] L16Walk.ds_eq
theorem L16Walk.ds_len (c:L16Walk):c.ds.length=7:=by rw [L16Walk.ds_eq]; rfl
def L16Walk.dz (c:L16Walk):List D:=[.ptr (Net.ds c.n),.int .i64 c.steps,.int .i64 c.nodes,.fz (c.entered.map AB),.fz (c.origins.map AB),.fz (c.labels.map AT),.int .i64 c.code]
@[go_sem] theorem L16Walk.dz_eq (c:L16Walk):c.dz=[.ptr (Net.ds c.n),.int .i64 c.steps,.int .i64 c.nodes,.fz (c.entered.map AB),.fz (c.origins.map AB),.fz (c.labels.map AT),.int .i64 c.code] :=rfl
theorem L16Walk.dz_fz (c:L16Walk):fzC c.ds=c.dz:=by rw [L16Walk.ds_eq]; rfl
theorem L16Walk.dz_ng (c:L16Walk):∀d ∈ c.ds,d≠ .gone :=by rw [L16Walk.ds_eq]; exact Ik rfl
@[go_sem] theorem L16Walk.dz_er (l:List L16Walk):erR (l.map L16Walk.dz)=List.map L16Walk.ds l:=C1 (fun c=>by rw [L16Walk.ds_eq]; simp only [L16Walk.dz,erC,er]) l
structure L16Binder where
 agent:Int
 stacks:List (List Int)
def L16Binder.ds (c:L16Binder):List D:=[.int .i64 c.agent,.sl (List.map (slD AB) c.stacks)]
theorem L16Binder.ds_eq (c:L16Binder):c.ds=[.int .i64 c.agent,.sl (List.map (slD AB) c.stacks)] :=rfl
@[go_sem] def L16Binder.avs (c:L16Binder):List AV:=[.int .i64 c.agent,.ro (List.map (slD AB) c.stacks)]
@[go_sem] def L16Binder.rv (c:L16Binder):List RV:=[.int .i64 c.agent,.ow (some 1) (List.map (slD AB) c.stacks)]
@[go_sem] def L16Binder.rvn (c:L16Binder):List RV:=[.int .i64 c.agent,.ow none (List.map (slD AB) c.stacks)]
attribute [go_sem] L16Binder.ds_eq
theorem L16Binder.ds_len (c:L16Binder):c.ds.length=2:=by rw [L16Binder.ds_eq]; rfl
def L16Binder.dz (c:L16Binder):List D:=[.int .i64 c.agent,.fz (List.map (slD AB) c.stacks)]
@[go_sem] theorem L16Binder.dz_eq (c:L16Binder):c.dz=[.int .i64 c.agent,.fz (List.map (slD AB) c.stacks)] :=rfl
theorem L16Binder.dz_fz (c:L16Binder):fzC c.ds=c.dz:=by rw [L16Binder.ds_eq]; rfl
theorem L16Binder.dz_ng (c:L16Binder):∀d ∈ c.ds,d≠ .gone :=by rw [L16Binder.ds_eq]; exact Ik rfl
@[go_sem] theorem L16Binder.dz_er (l:List L16Binder):erR (l.map L16Binder.dz)=List.map L16Binder.ds l:=C1 (fun c=>by rw [L16Binder.ds_eq]; simp only [L16Binder.dz,erC,er]) l
def GB (a0:Port):Option (ByteArray):=
 ((Ey a0.agent).bind fun v2002=>((D6 v2002 (ByteArray.mk #[46])).bind fun v2003=>((Ey a0.slot).bind fun v2006=>((D6 v2003 v2006).bind fun v2007=>((D6 v2007 (ByteArray.mk #[59])).bind fun v2008=>(some v2008))))))
def A1 (a0:L16Walk) (a1:Int):Option (Core × L16Walk):=
 (if (decide (a0.code=0))=true then (some ((⟨0,0,[],[]⟩:Core),(⟨a0.n,a0.steps,a0.nodes,a0.entered,a0.origins,a0.labels,a1⟩:L16Walk))) else (some ((⟨0,0,[],[]⟩:Core),a0)))
def G5 (a0:List (List Int)) (a1:Int) (a2:List Int):Option ((List (List Int))):=
 ((app? [] a0).bind fun v2002=>((at? v2002 a1).bind fun v3003=>((CL v2002 a1 a2).bind fun v3004_1=>(some v3004_1))))
def FA (a0:List Int):Option ((List Int)):=
 ((app? [] a0).bind fun v2002=>(some v2002))
def Br:Nat→Agent→(List Int)→Int→Option (Int × (List Int))
 |0,_,_,_=>none
 |n+1,a0,p11_0,p11_1=>(if (decide (p11_1<(a0.ports.length:Int)))=true then ((app? p11_0 [p11_1]).bind fun v19003=>(Br n a0 v19003 (IntKind.i64.wrap (p11_1+1)))) else (some (8,p11_0)))
def EA (a0:Agent) (p9_0:Bool):Option (Int × (List Int)):=
 (if p9_0=true then (some (10,[0])) else (if (decide (a0.kind=12))=true then (some (11,[])) else (some (0,[]))))
def EZ (a0:Agent) (a1:Int) (p8_0:Bool):Option (Int × (List Int)):=
 (if p8_0=true then (some (9,[0])) else (if (decide (a0.kind=11))=true then (EA a0 (decide (a1=1))) else (EA a0 false)))
def Ea (a0:Agent) (a1:Int) (p5_0:Bool):Option (Int × (List Int)):=
 (if p5_0=true then (Br fuel a0 [] 1) else (if (decide (a0.kind=10))=true then (EZ a0 a1 (decide (a1=1))) else (EZ a0 a1 false)))
def Eb (a0:Agent) (a1:Int) (p4_0:Bool):Option (Int × (List Int)):=
 (if p4_0=true then (some (3,[0])) else (if (decide (a0.kind=9))=true then (Ea a0 a1 (decide (a1=0))) else (Ea a0 a1 false)))
def Ec (a0:Agent) (a1:Int) (p3_0:Bool):Option (Int × (List Int)):=
 (if p3_0=true then (some (3,[0,1])) else (if (decide (a0.kind=8))=true then (Eb a0 a1 (decide (a1=1))) else (Eb a0 a1 false)))
def Ed (a0:Agent) (a1:Int) (p2_0:Bool):Option (Int × (List Int)):=
 (if p2_0=true then (some (5,[0,1])) else (if (decide (a0.kind=6))=true then (some (2,[])) else (if (decide (a0.kind=7))=true then (Ec a0 a1 (decide (a1=2))) else (Ec a0 a1 false))))
def Ee (a0:Agent) (a1:Int) (p1_0:Bool):Option (Int × (List Int)):=
 (if p1_0=true then (some (1,[])) else (if (decide (a0.kind=3))=true then (Ed a0 a1 (decide (a1=2))) else (Ed a0 a1 false)))
def Ef (a0:Agent) (a1:Int) (p0_0:Bool):Option (Int × (List Int)):=
 (if p0_0=true then (some (4,[2])) else (if (decide (a0.kind=2))=true then (Ee a0 a1 (decide (a1=1))) else (Ee a0 a1 false)))
def G6 (a0:Agent) (a1:Int):Option (Int × (List Int)):=
 (if (decide (a0.kind=2))=true then (Ef a0 a1 (decide (a1=0))) else (Ef a0 a1 false))
def Ez (a0:List (List Int)) (a1:Int):Option ((List (List Int))):=
 ((cutL a0 0 a1).bind fun v2002=>(some v2002))
def DK:Nat→(List Int)→(List Int)→Int→Option (Bool)
 |0,_,_,_=>none
 |n+1,a0,a1,p0_0=>(if (decide (p0_0<(a0.length:Int)))=true then ((at? a0 p0_0).bind fun v7002=>((at? a1 p0_0).bind fun v7006=>(if (!decide (v7002=v7006))=true then (some false) else (DK n a0 a1 (IntKind.i64.wrap (p0_0+1)))))) else (some true))
def Fj (a0:List Int) (a1:List Int):Option (Bool):=
 (if (!decide ((a0.length:Int)=(a1.length:Int)))=true then (some false) else (DK fuel a0 a1 0))
def BU:Nat→(List (List Int))→(List (List Int))→Int→Option (Bool)
 |0,_,_,_=>none
 |n+1,a0,a1,p0_0=>(if (decide (p0_0<(a0.length:Int)))=true then ((at? a0 p0_0).bind fun v7002=>((at? a1 p0_0).bind fun v7006=>((Fj v7002 v7006).bind fun v7008=>(if (!v7008)=true then (some false) else (BU n a0 a1 (IntKind.i64.wrap (p0_0+1))))))) else (some true))
def DX (a0:List (List Int)) (a1:List (List Int)):Option (Bool):=
 (if (!decide ((a0.length:Int)=(a1.length:Int)))=true then (some false) else (BU fuel a0 a1 0))
mutual
def Ai:Nat→Int→(List L16Binder)→(List (List Int))→Int→Option (Int)
 |0,_,_,_,_=>none
 |n+1,a1,a3,v2012,p0_0=>(if (decide (0≤p0_0))=true then ((at? a3 p0_0).bind fun v6002=>(if (decide (v6002.agent=a1))=true then ((at? a3 p0_0).bind fun v6010=>((DX v6010.stacks v2012).bind fun v6014=>(A5 n a1 a3 p0_0 v2012 v6014))) else (A5 n a1 a3 p0_0 v2012 false))) else (some (-1)))
def A5:Nat→Int→(List L16Binder)→Int→(List (List Int))→Bool→Option (Int)
 |0,_,_,_,_,_=>none
 |n+1,a1,a3,p0_0,v2012,p1_0=>(if p1_0=true then (some (IntKind.i64.wrap ((IntKind.i64.wrap ((a3.length:Int) - 1)) - p0_0))) else (Ai n a1 a3 v2012 (IntKind.i64.wrap (p0_0 - 1))))
end
def Ca (a0:L16Walk) (a1:Int) (a2:List (List Int)) (a3:List L16Binder):Option (Int):=
 ((at? a0.n.agents a1).bind fun v2009=>((Ez a2 v2009.level).bind fun v2012=>(Ai fuel a1 a3 v2012 (IntKind.i64.wrap ((a3.length:Int) - 1)))))
def C9 (a0:L16Walk) (a1:Int) (a2:Int) (a3:ByteArray):Option (Bool × L16Walk):=
 ((app? a0.origins [a1]).bind fun v3007=>((app? a0.labels [a3]).bind fun v4007=>(if (decide ((IntKind.i64.wrap (a0.nodes+1))≤400))=true then (some ((decide (a2≤80)),(⟨a0.n,a0.steps,(IntKind.i64.wrap (a0.nodes+1)),a0.entered,v3007,v4007,a0.code⟩:L16Walk))) else (some (false,(⟨a0.n,a0.steps,(IntKind.i64.wrap (a0.nodes+1)),a0.entered,v3007,v4007,a0.code⟩:L16Walk))))))
def Qe (a0:Int):Option (Core):=
 (some (⟨2,a0,[],[]⟩:Core))
mutual
def Ba:Nat→L16Walk→Port→(List (List Int))→(List L16Binder)→Int→Option (Core × L16Walk)
 |0,_,_,_,_,_=>none
 |n+1,a0,a1,a2,a3,a4=>(Ax n a0 a3 a4 a0.steps a0.entered a2 a1.agent a1.slot (ByteArray.mk #[]))
def Ax:Nat→L16Walk→(List L16Binder)→Int→Int→(List Int)→(List (List Int))→Int→Int→ByteArray→Option (Core × L16Walk)
 |0,_,_,_,_,_,_,_,_,_=>none
 |n+1,a0,a3,a4,p4_0,p4_1,p4_2,p4_3,p4_4,p4_5=>(if (!decide (a0.code=0))=true then (some ((⟨0,0,[],[]⟩:Core),(⟨a0.n,p4_0,a0.nodes,p4_1,a0.origins,a0.labels,a0.code⟩:L16Walk))) else ((GB (⟨p4_3,p4_4⟩:Port)).bind fun v5002=>((D6 p4_5 v5002).bind fun v5003=>(if (decide (4000<(IntKind.i64.wrap (p4_0+1))))=true then ((A1 (⟨a0.n,(IntKind.i64.wrap (p4_0+1)),a0.nodes,p4_1,a0.origins,a0.labels,a0.code⟩:L16Walk) 4).bind fun v8001=>(some (v8001.1,v8001.2))) else ((at? a0.n.agents p4_3).bind fun v9009=>(if (!decide (v9009.kind=2))=true then (Ay n a0 a3 a4 p4_0 p4_1 p4_2 p4_3 p4_4 v5003 v9009 true) else (Ay n a0 a3 a4 p4_0 p4_1 p4_2 p4_3 p4_4 v5003 v9009 (!decide (p4_4=1)))))))))
def Ay:Nat→L16Walk→(List L16Binder)→Int→Int→(List Int)→(List (List Int))→Int→Int→ByteArray→Agent→Bool→Option (Core × L16Walk)
 |0,_,_,_,_,_,_,_,_,_,_,_=>none
 |n+1,a0,a3,a4,p4_0,p4_1,p4_2,p4_3,p4_4,v5003,v9009,p5_0=>(if p5_0=true then ((app? p4_1 [p4_3]).bind fun v11008=>(Af n a0 a3 a4 p4_0 p4_2 p4_3 p4_4 v5003 v9009 v11008)) else (Af n a0 a3 a4 p4_0 p4_2 p4_3 p4_4 v5003 v9009 p4_1))
def Af:Nat→L16Walk→(List L16Binder)→Int→Int→(List (List Int))→Int→Int→ByteArray→Agent→(List Int)→Option (Core × L16Walk)
 |0,_,_,_,_,_,_,_,_,_,_=>none
 |n+1,a0,a3,a4,p4_0,p4_2,p4_3,p4_4,v5003,v9009,p6_0=>(if (!decide (v9009.kind=4))=true then ((at? a0.n.agents p4_3).bind fun v22009=>((G6 v22009 p4_4).bind fun v23003=>(if (decide (v23003.1 =0))=true then ((A1 (⟨a0.n,(IntKind.i64.wrap (p4_0+1)),a0.nodes,p6_0,a0.origins,a0.labels,a0.code⟩:L16Walk) 13).bind fun v25001=>(some (v25001.1,v25001.2))) else (if (decide (v23003.1 =1))=true then ((Ca (⟨a0.n,(IntKind.i64.wrap (p4_0+1)),a0.nodes,p6_0,a0.origins,a0.labels,a0.code⟩:L16Walk) p4_3 p4_2 a3).bind fun v29005=>(if (decide (v29005<0))=true then ((A1 (⟨a0.n,(IntKind.i64.wrap (p4_0+1)),a0.nodes,p6_0,a0.origins,a0.labels,a0.code⟩:L16Walk) 13).bind fun v31001=>(some (v31001.1,v31001.2))) else (Aa n a0 a4 p4_0 p4_2 p4_3 p4_4 p6_0 v5003 v22009 v23003 a3 v29005 []))) else (if (decide (v23003.1 =2))=true then (AR n a0 a3 a4 p4_0 p4_2 p4_3 p4_4 p6_0 v5003 v22009 v23003 (decide (v23003.1 =2))) else (if (decide (v23003.1 =3))=true then (AR n a0 a3 a4 p4_0 p4_2 p4_3 p4_4 p6_0 v5003 v22009 v23003 (decide (v23003.1 =3))) else (if (decide (v23003.1 =8))=true then (AR n a0 a3 a4 p4_0 p4_2 p4_3 p4_4 p6_0 v5003 v22009 v23003 (decide (v23003.1 =8))) else (AR n a0 a3 a4 p4_0 p4_2 p4_3 p4_4 p6_0 v5003 v22009 v23003 (decide (v23003.1 =11)))))))))) else ((at? p4_2 v9009.level).bind fun v13005=>(if (decide (0<p4_4))=true then ((FA v13005).bind fun v15006=>((app? v15006 [p4_4]).bind fun v15010=>((G5 p4_2 v9009.level v15010).bind fun v15011=>(Cb n a0 a3 a4 p4_0 p4_3 p4_4 p6_0 v5003 v9009 v15011)))) else (if (decide ((v13005.length:Int)=0))=true then ((A1 (⟨a0.n,(IntKind.i64.wrap (p4_0+1)),a0.nodes,p6_0,a0.origins,a0.labels,a0.code⟩:L16Walk) 13).bind fun v18001=>(some (v18001.1,v18001.2))) else ((at? v13005 (IntKind.i64.wrap ((v13005.length:Int) - 1))).bind fun v19004=>((cutL v13005 0 (IntKind.i64.wrap ((v13005.length:Int) - 1))).bind fun v20009=>((FA v20009).bind fun v20010=>((G5 p4_2 v9009.level v20010).bind fun v20011=>((at? v9009.ports v19004).bind fun v21005=>(Ax n a0 a3 a4 (IntKind.i64.wrap (p4_0+1)) p6_0 v20011 v21005.agent v21005.slot v5003))))))))))
def Aa:Nat→L16Walk→Int→Int→(List (List Int))→Int→Int→(List Int)→ByteArray→Agent→(Int × (List Int))→(List L16Binder)→Int→(List Int)→Option (Core × L16Walk)
 |0,_,_,_,_,_,_,_,_,_,_,_,_,_=>none
 |n+1,a0,a4,p4_0,p4_2,p4_3,p4_4,p6_0,v5003,v22009,v23003,p9_0,p9_1,p9_2=>((C9 (⟨a0.n,(IntKind.i64.wrap (p4_0+1)),a0.nodes,p6_0,a0.origins,a0.labels,a0.code⟩:L16Walk) p4_3 a4 v5003).bind fun v42005=>(if (!v42005.1)=true then ((A1 v42005.2 4).bind fun v43001=>(some (v43001.1,v43001.2))) else (if (decide (v22009.kind=8))=true then ((Ey p4_3).bind fun v45005=>((D6 v45005 (ByteArray.mk #[46,120,59])).bind fun v45006=>((C9 v42005.2 (-1) (IntKind.i64.wrap (a4+1)) v45006).bind fun v45007=>(if (!v45007.1)=true then ((A1 v45007.2 4).bind fun v46001=>(some (v46001.1,v46001.2))) else ((at? v22009.data 0).bind fun v47006=>((Qe v47006).bind fun v47008=>((app? [] [(⟨v47008.kind,v47008.value,[],[]⟩:Core)]).bind fun v47010=>(BV n a4 p4_2 p9_0 p9_1 p9_2 v22009 v23003 v45007.2.n.agents v45007.2.steps v45007.2.nodes v45007.2.entered v45007.2.origins v45007.2.labels v45007.2.code v47010)))))))) else (BV n a4 p4_2 p9_0 p9_1 p9_2 v22009 v23003 v42005.2.n.agents v42005.2.steps v42005.2.nodes v42005.2.entered v42005.2.origins v42005.2.labels v42005.2.code []))))
def BV:Nat→Int→(List (List Int))→(List L16Binder)→Int→(List Int)→Agent→(Int × (List Int))→(List Agent)→Int→Int→(List Int)→(List Int)→(List ByteArray)→Int→(List Core)→Option (Core × L16Walk)
 |0,_,_,_,_,_,_,_,_,_,_,_,_,_,_,_=>none
 |n+1,a4,p4_2,p9_0,p9_1,p9_2,v22009,v23003,p11_0,p11_1,p11_2,p11_3,p11_4,p11_5,p11_6,p11_7=>(Ag n a4 p4_2 p9_0 p9_1 p9_2 v22009 v23003 p11_0 p11_1 p11_2 p11_3 p11_4 p11_5 p11_6 p11_7 0)
def Ag:Nat→Int→(List (List Int))→(List L16Binder)→Int→(List Int)→Agent→(Int × (List Int))→(List Agent)→Int→Int→(List Int)→(List Int)→(List ByteArray)→Int→(List Core)→Int→Option (Core × L16Walk)
 |0,_,_,_,_,_,_,_,_,_,_,_,_,_,_,_,_=>none
 |n+1,a4,p4_2,p9_0,p9_1,p9_2,v22009,v23003,p13_0,p13_1,p13_2,p13_3,p13_4,p13_5,p13_6,p13_7,p13_8=>(if (decide (p13_8<((List.length v23003.2 :Nat):Int)))=true then ((at? v23003.2 p13_8).bind fun v51009=>((at? v22009.ports v51009).bind fun v51011=>((Ba n (⟨(⟨p13_0⟩:Net),p13_1,p13_2,p13_3,p13_4,p13_5,p13_6⟩:L16Walk) v51011 p4_2 p9_0 (IntKind.i64.wrap (a4+1))).bind fun v51017=>((app? p13_7 [v51017.1]).bind fun v51019=>(Ag n a4 p4_2 p9_0 p9_1 p9_2 v22009 v23003 v51017.2.n.agents v51017.2.steps v51017.2.nodes v51017.2.entered v51017.2.origins v51017.2.labels v51017.2.code v51019 (IntKind.i64.wrap (p13_8+1))))))) else (some ((⟨v23003.1,p9_1,p9_2,p13_7⟩:Core),(⟨(⟨p13_0⟩:Net),p13_1,p13_2,p13_3,p13_4,p13_5,p13_6⟩:L16Walk))))
def AR:Nat→L16Walk→(List L16Binder)→Int→Int→(List (List Int))→Int→Int→(List Int)→ByteArray→Agent→(Int × (List Int))→Bool→Option (Core × L16Walk)
 |0,_,_,_,_,_,_,_,_,_,_,_,_=>none
 |n+1,a0,a3,a4,p4_0,p4_2,p4_3,p4_4,p6_0,v5003,v22009,v23003,p7_0=>(if p7_0=true then (Aa n a0 a4 p4_0 p4_2 p4_3 p4_4 p6_0 v5003 v22009 v23003 a3 v22009.value []) else (if (decide (v23003.1 =9))=true then (Az n a0 a3 a4 p4_0 p4_2 p4_3 p4_4 p6_0 v5003 v22009 v23003 (decide (v23003.1 =9))) else (Az n a0 a3 a4 p4_0 p4_2 p4_3 p4_4 p6_0 v5003 v22009 v23003 (decide (v23003.1 =10)))))
def Az:Nat→L16Walk→(List L16Binder)→Int→Int→(List (List Int))→Int→Int→(List Int)→ByteArray→Agent→(Int × (List Int))→Bool→Option (Core × L16Walk)
 |0,_,_,_,_,_,_,_,_,_,_,_,_=>none
 |n+1,a0,a3,a4,p4_0,p4_2,p4_3,p4_4,p6_0,v5003,v22009,v23003,p8_0=>(if p8_0=true then ((FA v22009.data).bind fun v39004=>(Aa n a0 a4 p4_0 p4_2 p4_3 p4_4 p6_0 v5003 v22009 v23003 a3 0 v39004)) else (if (decide (v23003.1 =4))=true then ((app? [] a3).bind fun v41002=>((Ez p4_2 v22009.level).bind fun v41010=>((app? v41002 [(⟨p4_3,v41010⟩:L16Binder)]).bind fun v41013=>(Aa n a0 a4 p4_0 p4_2 p4_3 p4_4 p6_0 v5003 v22009 v23003 v41013 0 [])))) else (Aa n a0 a4 p4_0 p4_2 p4_3 p4_4 p6_0 v5003 v22009 v23003 a3 0 [])))
def Cb:Nat→L16Walk→(List L16Binder)→Int→Int→Int→Int→(List Int)→ByteArray→Agent→(List (List Int))→Option (Core × L16Walk)
 |0,_,_,_,_,_,_,_,_,_,_=>none
 |n+1,a0,a3,a4,p4_0,p4_3,p4_4,p6_0,v5003,v9009,v15011=>((at? v9009.ports 0).bind fun v16004=>(Ax n a0 a3 a4 (IntKind.i64.wrap (p4_0+1)) p6_0 v15011 v16004.agent v16004.slot v5003))
end
def Bs:Nat→Net→(List (List Int))→Int→Option (Core × L16Walk)
 |0,_,_,_=>none
 |n+1,a0,p1_0,p1_1=>(if (decide (p1_1≤8))=true then ((app? p1_0 [[]]).bind fun v7003=>(Bs n a0 v7003 (IntKind.i64.wrap (p1_1+1)))) else ((at? a0.agents 0).bind fun v8005=>((at? v8005.ports 0).bind fun v8008=>((Ba fuel (⟨a0,0,0,[],[],[],0⟩:L16Walk) v8008 p1_0 [] 1).bind fun v8011=>(some (v8011.1,v8011.2))))))
def G7 (a0:Net):Option (Core × L16Walk):=
 (Bs fuel a0 [] 0)
def CN:Nat→(List ByteArray)→Int→Option (Bool)
 |0,_,_=>none
 |n+1,a0,p0_0=>(if (decide (p0_0<(a0.length:Int)))=true then ((at? a0 p0_0).bind fun v5002=>(if (decide (3000<(v5002.size:Int)))=true then (some false) else (CN n a0 (IntKind.i64.wrap (p0_0+1))))) else (some true))
def GC (a0:List ByteArray):Option (Bool):=
 (CN fuel a0 0)
def K1 (a0:Net):Option (Labelled × Int):=
 ((G7 a0).bind fun v2001=>(if (!decide (v2001.2.code =0))=true then (some ((⟨(⟨0,0,[],[]⟩:Core),[]⟩:Labelled),v2001.2.code)) else ((GC v2001.2.labels).bind fun v5004=>(if (!v5004)=true then (some ((⟨(⟨0,0,[],[]⟩:Core),[]⟩:Labelled),4)) else ((app? [] v2001.2.labels).bind fun v7006=>(some ((⟨v2001.1,v7006⟩:Labelled),0)))))))
end Go.Proofs.YtoncbhomocgmcaaGreatDoor.Ab
