/-
  Data of the program as Lean types; how they lie in memory. Printed by wip/ab/gen.py.
-/
import Derived.Test.YtclmbjbbojdojaaGreatAbY
import Derived.Test.YtclmbjbbojdojaaGreatModU
import Derived.Test.YtclmbjbbojdojaaGreatModW
namespace Go.Proofs.YtclmbjbbojdojaaGreat.Ab
set_option linter.unusedVariables false
set_option linter.unusedSimpArgs false
set_option maxRecDepth 20000
set_option maxHeartbeats 4000000
open Go.RowKit
structure Splitter where
 n:Net
 owners:List Int
 grid:Grid
 att:List Address
def Splitter.ds (c:Splitter):List D:=[.ptr (Net.ds c.n),.sl (List.map AJ c.owners),.sl (List.map Shard.ds c.grid.shards),.int .i64 c.grid.root.machine,.int .i64 c.grid.root.kind,.int .i64 c.grid.root.index,.sl (List.map Address.ds c.att)]
theorem Splitter.ds_eq (c:Splitter):c.ds=[.ptr (Net.ds c.n),.sl (List.map AJ c.owners),.sl (List.map Shard.ds c.grid.shards),.int .i64 c.grid.root.machine,.int .i64 c.grid.root.kind,.int .i64 c.grid.root.index,.sl (List.map Address.ds c.att)] :=rfl
@[go_sem] def Splitter.avs (c:Splitter):List AV:=[.rop [.ro (List.map Agent.ds c.n.agents)] 0,.ro (List.map AJ c.owners),.ro (List.map Shard.ds c.grid.shards),.int .i64 c.grid.root.machine,.int .i64 c.grid.root.kind,.int .i64 c.grid.root.index,.ro (List.map Address.ds c.att)]
attribute [go_sem] Splitter.ds_eq
theorem Splitter.ds_len (c:Splitter):c.ds.length=7:=by rw [Splitter.ds_eq]; rfl
def Splitter.dz (c:Splitter):List D:=[.ptr (Net.ds c.n),.fz (List.map AJ c.owners),.fz (List.map Shard.ds c.grid.shards),.int .i64 c.grid.root.machine,.int .i64 c.grid.root.kind,.int .i64 c.grid.root.index,.fz (List.map Address.ds c.att)]
@[go_sem] theorem Splitter.dz_eq (c:Splitter):c.dz=[.ptr (Net.ds c.n),.fz (List.map AJ c.owners),.fz (List.map Shard.ds c.grid.shards),.int .i64 c.grid.root.machine,.int .i64 c.grid.root.kind,.int .i64 c.grid.root.index,.fz (List.map Address.ds c.att)] :=rfl
theorem Splitter.dz_len (c:Splitter):c.dz.length=7:=rfl
theorem Splitter.dz_fz (c:Splitter):fzC c.ds=c.dz:=by rw [Splitter.ds_eq]; rfl
theorem Splitter.dz_ng (c:Splitter):∀d ∈ c.ds,d≠ .gone :=by rw [Splitter.ds_eq]; exact Hn rfl
@[go_sem] theorem Splitter.dz_er (l:List Splitter):erR (List.map Splitter.dz l)=List.map Splitter.ds l:=B4 (fun c=>by rw [Splitter.ds_eq]; simp only [Splitter.dz,erC,er]) l
end Go.Proofs.YtclmbjbbojdojaaGreat.Ab
namespace Go.Proofs.YtclmbjbbojdojaaGreat.Ab
set_option linter.unusedVariables false
set_option linter.unusedSimpArgs false
set_option maxRecDepth 20000
set_option maxHeartbeats 4000000
open Go.RowKit
def FN (a0:List Int):Option ((List Int)):=
 (Option.bind (app? [] a0) fun v2002=>(some v2002))
def s_l27Set (a0:Grid) (a1:List Address) (a2:Port) (a3:Address):Option (Grid):=
 (if (decide (a2.agent=0))=true then (some (⟨a0.shards,a3⟩:Grid)) else (Option.bind (at? a1 a2.agent) fun v4007=>(Option.bind (at? a0.shards v4007.machine) fun v4010=>(Option.bind (at? a1 a2.agent) fun v4016=>(Option.bind (at? v4010.cells v4016.index) fun v4019=>(Option.bind (at? v4019.aux (IntKind.i64.wrap (a2.slot - 1))) fun v4026=>(Option.bind (Ah v4019.aux (IntKind.i64.wrap (a2.slot - 1)) a3) fun v4027_1=>(Option.bind (Ah v4010.cells v4016.index (⟨v4019.kind,v4019.level,v4019.value,v4019.data,v4027_1⟩:ShardCell)) fun v4027_2=>(Option.bind (Ah a0.shards v4007.machine (⟨v4027_2,v4010.vars,v4010.redexes⟩:Shard)) fun v4027_3=>(some (⟨v4027_3,a0.root⟩:Grid)))))))))))
mutual
def BO:Nat→(List Shard)→Int→Int→Int→Int→Option (Grid × Int)
 |0,_,_,_,_,_=>none
 |n+1,p8_0,p8_1,p8_2,p8_3,p14_0=>(if (decide (p14_0<((List.length p8_0:Nat):Int)))=true then (Option.bind (at? p8_0 p14_0) fun v38003=>(if (decide (400<((List.length v38003.cells:Nat):Int)))=true then (Ci n p8_0 p8_1 p8_2 p8_3 p14_0 true) else (if (decide (400<((List.length v38003.vars:Nat):Int)))=true then (Ci n p8_0 p8_1 p8_2 p8_3 p14_0 true) else (Ci n p8_0 p8_1 p8_2 p8_3 p14_0 (decide (400<((List.length v38003.redexes:Nat):Int))))))) else (some ((⟨p8_0,(⟨p8_1,p8_2,p8_3⟩:Address)⟩:Grid),0)))
def Ci:Nat→(List Shard)→Int→Int→Int→Int→Bool→Option (Grid × Int)
 |0,_,_,_,_,_,_=>none
 |n+1,p8_0,p8_1,p8_2,p8_3,p14_0,p15_0=>(if p15_0=true then (some ((⟨[],(⟨0,0,0⟩:Address)⟩:Grid),4)) else (BO n p8_0 p8_1 p8_2 p8_3 (IntKind.i64.wrap (p14_0+1))))
end
mutual
def Al:Nat→(List Int)→(List Address)→(List Wire)→(List Shard)→Int→Int→Int→Int→Option (Grid × Int)
 |0,_,_,_,_,_,_,_,_=>none
 |n+1,a1,p3_1,v15001,p8_0,p8_1,p8_2,p8_3,p8_4=>(if (decide (p8_4<((List.length v15001:Nat):Int)))=true then (Option.bind (at? v15001 p8_4) fun v19002=>(Option.bind (at? v15001 p8_4) fun v20002=>(if (decide (v19002.a.slot=0))=true then (Cj n a1 p3_1 p8_0 p8_1 p8_2 p8_3 p8_4 v15001 v19002 v20002 (decide (0<v19002.a.agent))) else (Cj n a1 p3_1 p8_0 p8_1 p8_2 p8_3 p8_4 v15001 v19002 v20002 false)))) else (BO fuel p8_0 p8_1 p8_2 p8_3 0))
def Cj:Nat→(List Int)→(List Address)→(List Shard)→Int→Int→Int→Int→(List Wire)→Wire→Wire→Bool→Option (Grid × Int)
 |0,_,_,_,_,_,_,_,_,_,_,_=>none
 |n+1,a1,p3_1,p8_0,p8_1,p8_2,p8_3,p8_4,v15001,v19002,v20002,p9_0=>(if (decide (v20002.b.slot=0))=true then (Ck n a1 p3_1 p8_0 p8_1 p8_2 p8_3 p8_4 p9_0 v15001 v19002 v20002 (decide (0<v20002.b.agent))) else (Ck n a1 p3_1 p8_0 p8_1 p8_2 p8_3 p8_4 p9_0 v15001 v19002 v20002 false))
def Ck:Nat→(List Int)→(List Address)→(List Shard)→Int→Int→Int→Int→Bool→(List Wire)→Wire→Wire→Bool→Option (Grid × Int)
 |0,_,_,_,_,_,_,_,_,_,_,_,_=>none
 |n+1,a1,p3_1,p8_0,p8_1,p8_2,p8_3,p8_4,p9_0,v15001,v19002,v20002,p10_0=>(if p9_0=true then (DK n a1 p3_1 p8_0 p8_1 p8_2 p8_3 p8_4 p9_0 p10_0 v15001 v19002 v20002 p10_0) else (DK n a1 p3_1 p8_0 p8_1 p8_2 p8_3 p8_4 p9_0 p10_0 v15001 v19002 v20002 false))
def DK:Nat→(List Int)→(List Address)→(List Shard)→Int→Int→Int→Int→Bool→Bool→(List Wire)→Wire→Wire→Bool→Option (Grid × Int)
 |0,_,_,_,_,_,_,_,_,_,_,_,_,_=>none
 |n+1,a1,p3_1,p8_0,p8_1,p8_2,p8_3,p8_4,p9_0,p10_0,v15001,v19002,v20002,p11_0=>(if p11_0=true then (Option.bind (at? a1 v19002.a.agent) fun v29005=>(Option.bind (at? p8_0 v29005) fun v29007=>(Option.bind (at? p3_1 v19002.a.agent) fun v30008=>(Option.bind (at? p3_1 v20002.b.agent) fun v30013=>(Option.bind (app? v29007.redexes [(⟨v30008,v30013⟩:ShardRedex)]) fun v30017=>(Option.bind (Ah p8_0 v29005 (⟨v29007.cells,v29007.vars,v30017⟩:Shard)) fun v30020_46=>(Al n a1 p3_1 v15001 v30020_46 p8_1 p8_2 p8_3 (IntKind.i64.wrap (p8_4+1))))))))) else (if p9_0=true then (Option.bind (at? p3_1 v19002.a.agent) fun v32005=>(Option.bind (s_l27Set (⟨p8_0,(⟨p8_1,p8_2,p8_3⟩:Address)⟩:Grid) p3_1 v20002.b v32005) fun v32007=>(Al n a1 p3_1 v15001 v32007.shards v32007.root.machine v32007.root.kind v32007.root.index (IntKind.i64.wrap (p8_4+1))))) else (if p10_0=true then (Option.bind (at? p3_1 v20002.b.agent) fun v34005=>(Option.bind (s_l27Set (⟨p8_0,(⟨p8_1,p8_2,p8_3⟩:Address)⟩:Grid) p3_1 v19002.a v34005) fun v34007=>(Al n a1 p3_1 v15001 v34007.shards v34007.root.machine v34007.root.kind v34007.root.index (IntKind.i64.wrap (p8_4+1))))) else (Option.bind (at? a1 v19002.a.agent) fun v23005=>(Option.bind (at? p8_0 v23005) fun v23007=>(Option.bind (at? a1 v19002.a.agent) fun v24003=>(Option.bind (app? v23007.vars [(⟨true,false,(⟨0,0,0⟩:Address)⟩:ShardVar)]) fun v25007=>(Option.bind (Ah p8_0 v23005 (⟨v23007.cells,v25007,v23007.redexes⟩:Shard)) fun v25010_48=>(Option.bind (s_l27Set (⟨v25010_48,(⟨p8_1,p8_2,p8_3⟩:Address)⟩:Grid) p3_1 v19002.a (⟨v24003,2,((List.length v23007.vars:Nat):Int)⟩:Address)) fun v26003=>(Option.bind (s_l27Set v26003 p3_1 v20002.b (⟨v24003,2,((List.length v23007.vars:Nat):Int)⟩:Address)) fun v27003=>(Al n a1 p3_1 v15001 v27003.shards v27003.root.machine v27003.root.kind v27003.root.index (IntKind.i64.wrap (p8_4+1)))))))))))))
end
def Cf:Nat→Net→(List Int)→(List Shard)→(List Address)→Int→Option (Grid × Int)
 |0,_,_,_,_,_=>none
 |n+1,a0,a1,p3_0,p3_1,p3_2=>(if (decide (p3_2<((List.length a0.agents:Nat):Int)))=true then (Option.bind (at? a0.agents p3_2) fun v11005=>(Option.bind (at? a1 p3_2) fun v12004=>(Option.bind (at? p3_0 v12004) fun v12006=>(Option.bind (at? a1 p3_2) fun v13003=>(Option.bind (app? p3_1 [(⟨v13003,1,((List.length v12006.cells:Nat):Int)⟩:Address)]) fun v13012=>(Option.bind (FN v11005.data) fun v14021=>(Option.bind (rep? (IntKind.i64.wrap (((List.length v11005.ports:Nat):Int) - 1)) (⟨0,0,0⟩:Address)) fun v14028=>(Option.bind (app? v12006.cells [(⟨v11005.kind,v11005.level,v11005.value,v14021,v14028⟩:ShardCell)]) fun v14031=>(Option.bind (Ah p3_0 v12004 (⟨v14031,v12006.vars,v12006.redexes⟩:Shard)) fun v14034_12=>(Cf n a0 a1 v14034_12 v13012 (IntKind.i64.wrap (p3_2+1)))))))))))) else (Option.bind (GR a0) fun v15001=>(Al fuel a1 p3_1 v15001 p3_0 0 0 0 0)))
def DA:Nat→Net→(List Int)→Int→(List Shard)→Int→Option (Grid × Int)
 |0,_,_,_,_,_=>none
 |n+1,a0,a1,a2,p1_0,p1_1=>(if (decide (p1_1<a2))=true then (Option.bind (app? p1_0 [(⟨[],[],[]⟩:Shard)]) fun v6004=>(DA n a0 a1 a2 v6004 (IntKind.i64.wrap (p1_1+1)))) else (Cf fuel a0 a1 p1_0 [(⟨0,0,0⟩:Address)] 1))
def Hs (a0:Net) (a1:List Int) (a2:Int):Option (Grid × Int):=
 (DA fuel a0 a1 a2 [] 0)
def DB:Nat→Net→(List Int)→Int→Int→Option (Grid × Int)
 |0,_,_,_,_=>none
 |n+1,a0,a1,a2,p2_0=>(if (decide (p2_0<((List.length a1:Nat):Int)))=true then (Option.bind (at? a1 p2_0) fun v9002=>(Option.bind (Cp v9002 0 (IntKind.i64.wrap (a2 - 1))) fun v9006=>(if (!v9006)=true then (some ((⟨[],(⟨0,0,0⟩:Address)⟩:Grid),2)) else (DB n a0 a1 a2 (IntKind.i64.wrap (p2_0+1)))))) else (Option.bind (Hs a0 a1 a2) fun v11002=>(some (v11002.1,v11002.2))))
def DC (a0:Net) (a1:List Int) (a2:Int) (p0_0:Bool):Option (Grid × Int):=
 (if p0_0=true then (some ((⟨[],(⟨0,0,0⟩:Address)⟩:Grid),2)) else (DB fuel a0 a1 a2 0))
def Hr (a0:Net) (a1:List Int) (a2:Int):Option (Grid × Int):=
 (Option.bind (M2 a0) fun v2000=>(if (!v2000)=true then (some ((⟨[],(⟨0,0,0⟩:Address)⟩:Grid),1)) else (Option.bind (Cp a2 1 4) fun v4001=>(if (!v4001)=true then (DC a0 a1 a2 true) else (if (!decide (((List.length a1:Nat):Int)=((List.length a0.agents:Nat):Int)))=true then (DC a0 a1 a2 true) else (Option.bind (at? a1 0) fun v4013=>(DC a0 a1 a2 (!decide (v4013=0)))))))))
def BB (a0:List Int):Option ((List Int)):=
 (Option.bind (app? [] a0) fun v4002=>(some v4002))
def JU (a0:Int) (a1:Int):Option (Bool):=
 (if (decide (a0<0))=true then (some true) else (some (decide (a1<a0))))
def KV (a0:Int) (a1:List Int):Option (Bool):=
 (Option.bind (Ay a1 (fun y0=>JU y0 a0)) fun v2002=>(some (!v2002)))
def JV (a0:Net) (a1:List Int) (a2:Int):Option (Bool):=
 (if (decide (1≤a2))=true then (if (decide (a2≤4))=true then (if (decide (((List.length a1:Nat):Int)=((List.length a0.agents:Nat):Int)))=true then (Option.bind (at? a1 0) fun v2018=>(if (decide (v2018=0))=true then (Option.bind (KV (IntKind.i64.wrap (a2 - 1)) a1) fun v2026=>(some v2026)) else (some false))) else (some false)) else (some false)) else (some false))
def Gc (a0:Int) (a1:Int):Option (Address):=
 (some (⟨a0,1,a1⟩:Address))
def Gd (a0:Port) (a1:Port):Option (Bool):=
 (if (decide (a0.agent<a1.agent))=true then (some true) else (if (decide (a0.agent=a1.agent))=true then (some (decide (a0.slot<a1.slot))) else (some false)))
def Ba (a0:Port):Option (Bool):=
 (if (decide (a0.slot=0))=true then (some (decide (0<a0.agent))) else (some false))
def Cl (a0:Splitter) (a1:Port) (a2:Address):Option (Splitter):=
 (if (decide (a1.agent=0))=true then (some (⟨a0.n,a0.owners,(⟨a0.grid.shards,a2⟩:Grid),a0.att⟩:Splitter)) else (Option.bind (at? a0.att a1.agent) fun v4006=>(Option.bind (at? a0.grid.shards v4006.machine) fun v5007=>(Option.bind (at? v5007.cells v4006.index) fun v5012=>(Option.bind (at? v5012.aux (IntKind.i64.wrap (a1.slot - 1))) fun v5019=>(Option.bind (Ah v5012.aux (IntKind.i64.wrap (a1.slot - 1)) a2) fun v5020_1=>(Option.bind (Ah v5007.cells v4006.index (⟨v5012.kind,v5012.level,v5012.value,v5012.data,v5020_1⟩:ShardCell)) fun v5020_2=>(Option.bind (Ah a0.grid.shards v4006.machine (⟨v5020_2,v5007.vars,v5007.redexes⟩:Shard)) fun v5020_3=>(some (⟨a0.n,a0.owners,(⟨v5020_3,a0.grid.root⟩:Grid),a0.att⟩:Splitter))))))))))
def HE (a0:Int) (a1:Int):Option (Address):=
 (some (⟨a0,2,a1⟩:Address))
def CW (a0:Splitter) (a1:Port) (a2:Port) (v3011:Int) (p0_0:Bool):Option (Splitter):=
 (if p0_0=true then (Option.bind (at? a0.grid.shards v3011) fun v9004_1=>(Option.bind (at? a0.att a1.agent) fun v9011=>(Option.bind (at? a0.att a2.agent) fun v9019=>(Option.bind (app? v9004_1.redexes [(⟨v9011,v9019⟩:ShardRedex)]) fun v9023=>(Option.bind (at? a0.grid.shards v3011) fun v9026_2=>(Option.bind (Ah a0.grid.shards v3011 (⟨v9004_1.cells,v9004_1.vars,v9023⟩:Shard)) fun v9026_3=>(some (⟨a0.n,a0.owners,(⟨v9026_3,a0.grid.root⟩:Grid),a0.att⟩:Splitter)))))))) else (Option.bind (Ba a1) fun v10002=>(if v10002=true then (Option.bind (at? a0.att a1.agent) fun v11008=>(Option.bind (Cl a0 a2 v11008) fun v11010=>(some (⟨v11010.n,a0.owners,v11010.grid,a0.att⟩:Splitter)))) else (Option.bind (Ba a2) fun v12002=>(if v12002=true then (Option.bind (at? a0.att a2.agent) fun v13008=>(Option.bind (Cl a0 a1 v13008) fun v13010=>(some (⟨v13010.n,a0.owners,v13010.grid,a0.att⟩:Splitter)))) else (Option.bind (at? a0.owners a1.agent) fun v4006=>(Option.bind (at? a0.grid.shards v3011) fun v4011_5=>(Option.bind (HE v4006 ((List.length v4011_5.vars:Nat):Int)) fun v4013=>(Option.bind (at? a0.grid.shards v3011) fun v5004_9=>(Option.bind (app? v5004_9.vars [(⟨true,false,(⟨0,0,0⟩:Address)⟩:ShardVar)]) fun v5007=>(Option.bind (at? a0.grid.shards v3011) fun v5010_10=>(Option.bind (Ah a0.grid.shards v3011 (⟨v5004_9.cells,v5007,v5004_9.redexes⟩:Shard)) fun v5010_11=>(Option.bind (Cl (⟨a0.n,a0.owners,(⟨v5010_11,a0.grid.root⟩:Grid),a0.att⟩:Splitter) a1 v4013) fun v6003=>(Option.bind (Cl (⟨v6003.n,a0.owners,v6003.grid,a0.att⟩:Splitter) a2 v4013) fun v7003=>(some (⟨v7003.n,a0.owners,v7003.grid,a0.att⟩:Splitter))))))))))))))))
def Da (a0:Splitter) (a1:Port) (a2:Port):Option (Splitter):=
 (Option.bind (at? a0.owners a1.agent) fun v3011=>(Option.bind (at? a0.grid.shards v3011) fun v3013=>(Option.bind (Ba a1) fun v8002=>(if v8002=true then (Option.bind (Ba a2) fun v8006=>(CW a0 a1 a2 v3011 v8006)) else (CW a0 a1 a2 v3011 false)))))
def Ao:Nat→(List Shard)→Int→(Shard→Option Bool)→Option (Int)
 |0,_,_,_=>none
 |n+1,a0,p0_0,f1=>(if (decide (p0_0<((List.length a0:Nat):Int)))=true then (Option.bind (at? a0 p0_0) fun v5003=>(Option.bind (f1 v5003) fun v5005=>(if v5005=true then (some p0_0) else (Ao n a0 (IntKind.i64.wrap (p0_0+1)) f1)))) else (some (-1)))
def D5 (a0:List Shard) (f1:(Shard→Option Bool)):Option (Int):=
 (Ao fuel a0 0 f1)
def BP (a0:List Shard) (f1:(Shard→Option Bool)):Option (Bool):=
 (Option.bind (D5 a0 f1) fun v2002=>(some (decide (0≤v2002))))
def Af:Nat→(List ShardCell)→Int→(ShardCell→Option Bool)→Option (Int)
 |0,_,_,_=>none
 |n+1,a0,p0_0,f1=>(if (decide (p0_0<((List.length a0:Nat):Int)))=true then (Option.bind (at? a0 p0_0) fun v5003=>(Option.bind (f1 v5003) fun v5005=>(if v5005=true then (some p0_0) else (Af n a0 (IntKind.i64.wrap (p0_0+1)) f1)))) else (some (-1)))
def C7 (a0:List ShardCell) (f1:(ShardCell→Option Bool)):Option (Int):=
 (Af fuel a0 0 f1)
def BU (a0:List ShardCell) (f1:(ShardCell→Option Bool)):Option (Bool):=
 (Option.bind (C7 a0 f1) fun v2002=>(some (decide (0≤v2002))))
def Dg:Nat→(List Int)→(List Int)→Int→Option (Bool)
 |0,_,_,_=>none
 |n+1,a0,a1,p0_0=>(if (decide (p0_0<((List.length a0:Nat):Int)))=true then (Option.bind (at? a0 p0_0) fun v7002=>(Option.bind (at? a1 p0_0) fun v7006=>(if (!decide (v7002=v7006))=true then (some false) else (Dg n a0 a1 (IntKind.i64.wrap (p0_0+1)))))) else (some true))
def Ht (a0:List Int) (a1:List Int):Option (Bool):=
 (if (!decide (((List.length a0:Nat):Int)=((List.length a1:Nat):Int)))=true then (some false) else (Dg fuel a0 a1 0))
def Bj:Nat→(List Address)→(List Address)→Int→Option (Bool)
 |0,_,_,_=>none
 |n+1,a0,a1,p0_0=>(if (decide (p0_0<((List.length a0:Nat):Int)))=true then (Option.bind (at? a0 p0_0) fun v7002=>(Option.bind (at? a1 p0_0) fun v7006=>(if (!(decide (v7002.machine=v7006.machine)&&(decide (v7002.kind=v7006.kind)&&decide (v7002.index=v7006.index))))=true then (some false) else (Bj n a0 a1 (IntKind.i64.wrap (p0_0+1)))))) else (some true))
def El (a0:List Address) (a1:List Address):Option (Bool):=
 (if (!decide (((List.length a0:Nat):Int)=((List.length a1:Nat):Int)))=true then (some false) else (Bj fuel a0 a1 0))
def G1 (a0:ShardCell) (a1:ShardCell):Option (Bool):=
 (if (decide (a0.kind=a1.kind))=true then (if (decide (a0.level=a1.level))=true then (if (decide (a0.value=a1.value))=true then (Option.bind (Ht a0.data a1.data) fun v2024=>(if v2024=true then (Option.bind (El a0.aux a1.aux) fun v2031=>(some v2031)) else (some false))) else (some false)) else (some false)) else (some false))
def HF (a0:ShardCell):Option (Agent):=
 (Option.bind (BB a0.data) fun v2008=>(Option.bind (rep? (IntKind.i64.wrap (((List.length a0.aux:Nat):Int)+1)) (⟨0,0⟩:Port)) fun v2013=>(some (⟨a0.kind,a0.level,a0.value,v2008,v2013⟩:Agent))))
def E6 (a0:ShardCell):Option (Bool):=
 (if (decide (a0.kind=0))=true then (Option.bind (G1 a0 (⟨0,0,0,[],[]⟩:ShardCell)) fun v3002=>(some v3002)) else (if (!decide (a0.kind=1))=true then (Option.bind (HF a0) fun v4005=>(Option.bind (E7 v4005) fun v4006=>(some v4006))) else (some false)))
def Ew (a0:ShardCell):Option (Bool):=
 (Option.bind (E6 a0) fun v2001=>(some (!v2001)))
def Ai:Nat→(List ShardVar)→Int→(ShardVar→Option Bool)→Option (Int)
 |0,_,_,_=>none
 |n+1,a0,p0_0,f1=>(if (decide (p0_0<((List.length a0:Nat):Int)))=true then (Option.bind (at? a0 p0_0) fun v5003=>(Option.bind (f1 v5003) fun v5005=>(if v5005=true then (some p0_0) else (Ai n a0 (IntKind.i64.wrap (p0_0+1)) f1)))) else (some (-1)))
def DL (a0:List ShardVar) (f1:(ShardVar→Option Bool)):Option (Int):=
 (Ai fuel a0 0 f1)
def Bb (a0:List ShardVar) (f1:(ShardVar→Option Bool)):Option (Bool):=
 (Option.bind (DL a0 f1) fun v2002=>(some (decide (0≤v2002))))
def G2 (a0:ShardVar):Option (Bool):=
 (if a0.used=true then (some true) else (if (!a0.full)=true then (some (decide (a0.held.machine=0)&&(decide (a0.held.kind=0)&&decide (a0.held.index=0)))) else (some false)))
def Hu (a0:ShardVar):Option (Bool):=
 (Option.bind (G2 a0) fun v2001=>(if (!v2001)=true then (some true) else (if (!a0.full)=true then (some (!(decide (a0.held.machine=0)&&(decide (a0.held.kind=0)&&decide (a0.held.index=0))))) else (some false))))
def CM (a0:Shard) (p0_0:Bool):Option (Bool):=
 (if p0_0=true then (some false) else (Option.bind (BU a0.cells (fun y0=>Ew y0)) fun v4002=>(if (!v4002)=true then (Option.bind (Bb a0.vars (fun y0=>Hu y0)) fun v4007=>(some (!v4007))) else (some false))))
def HG (a0:Shard):Option (Bool):=
 (if (decide (400<((List.length a0.cells:Nat):Int)))=true then (CM a0 true) else (if (decide (400<((List.length a0.vars:Nat):Int)))=true then (CM a0 true) else (CM a0 (decide (400<((List.length a0.redexes:Nat):Int))))))
def E8 (a0:Shard):Option (Bool):=
 (Option.bind (HG a0) fun v2001=>(some (!v2001)))
def BD:Nat→Net→(List Int)→(List Address)→(List Port)→(List Agent)→(List Shard)→Int→Int→Int→Int→Option (Grid × Int)
 |0,_,_,_,_,_,_,_,_,_,_=>none
 |n+1,a0,a1,p1_1,v15000,p3_0,p3_1,p3_2,p3_3,p3_4,p3_5=>(if (decide (p3_5<((List.length v15000:Nat):Int)))=true then (Option.bind (at? v15000 p3_5) fun v17000=>(Option.bind (EM a0 v17000) fun v18001=>(Option.bind (Gd v17000 v18001) fun v19002=>(if v19002=true then (Option.bind (Da (⟨(⟨p3_0⟩:Net),a1,(⟨p3_1,(⟨p3_2,p3_3,p3_4⟩:Address)⟩:Grid),p1_1⟩:Splitter) v17000 v18001) fun v20003=>(BD n a0 a1 p1_1 v15000 v20003.n.agents v20003.grid.shards v20003.grid.root.machine v20003.grid.root.kind v20003.grid.root.index (IntKind.i64.wrap (p3_5+1)))) else (BD n a0 a1 p1_1 v15000 p3_0 p3_1 p3_2 p3_3 p3_4 (IntKind.i64.wrap (p3_5+1))))))) else (Option.bind (BP p3_1 (fun y0=>E8 y0)) fun v22005=>(if v22005=true then (some ((⟨[],(⟨0,0,0⟩:Address)⟩:Grid),4)) else (some ((⟨p3_1,(⟨p3_2,p3_3,p3_4⟩:Address)⟩:Grid),0)))))
def DD:Nat→Net→(List Int)→(List Agent)→(List Shard)→(List Address)→Int→Option (Grid × Int)
 |0,_,_,_,_,_,_=>none
 |n+1,a0,a1,v7002,p1_0,p1_1,p1_2=>(if (decide (p1_2<((List.length v7002:Nat):Int)))=true then (Option.bind (at? v7002 p1_2) fun v9001=>(Option.bind (at? a1 (IntKind.i64.wrap (p1_2+1))) fun v10003=>(Option.bind (at? p1_0 v10003) fun v11006=>(Option.bind (Gc v10003 ((List.length v11006.cells:Nat):Int)) fun v12011=>(Option.bind (app? p1_1 [v12011]) fun v12013=>(Option.bind (BB v9001.data) fun v13013=>(Option.bind (rep? (IntKind.i64.wrap (((List.length v9001.ports:Nat):Int) - 1)) (⟨0,0,0⟩:Address)) fun v13018=>(Option.bind (app? v11006.cells [(⟨v9001.kind,v9001.level,v9001.value,v13013,v13018⟩:ShardCell)]) fun v13021=>(Option.bind (Ah p1_0 v10003 (⟨v13021,v11006.vars,v11006.redexes⟩:Shard)) fun v13024_12=>(DD n a0 a1 v7002 v13024_12 v12013 (IntKind.i64.wrap (p1_2+1)))))))))))) else (Option.bind (Ex a0) fun v15000=>(BD fuel a0 a1 p1_1 v15000 a0.agents p1_0 0 0 0 0)))
def Hp (a0:Net) (a1:List Int) (a2:Int):Option (Grid × Int):=
 (Option.bind (Hv a0) fun v2001=>(if (!v2001)=true then (some ((⟨[],(⟨0,0,0⟩:Address)⟩:Grid),1)) else (Option.bind (JV a0 a1 a2) fun v4002=>(if (!v4002)=true then (some ((⟨[],(⟨0,0,0⟩:Address)⟩:Grid),2)) else (Option.bind (rep? a2 (⟨[],[],[]⟩:Shard)) fun v6002=>(Option.bind (rep? 1 (⟨0,0,0⟩:Address)) fun v6004=>(Option.bind (cutL a0.agents 1 ((List.length a0.agents:Nat):Int)) fun v7002=>(DD fuel a0 a1 v7002 v6002 v6004 0))))))))
end Go.Proofs.YtclmbjbbojdojaaGreat.Ab
