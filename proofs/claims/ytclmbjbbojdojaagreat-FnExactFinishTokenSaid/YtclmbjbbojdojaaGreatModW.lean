/-
  Data of the program as Lean types; how they lie in memory. Printed by wip/ab/gen.py.
-/
import Derived.Test.YtclmbjbbojdojaaGreatAbY
import Derived.Test.YtclmbjbbojdojaaGreatMod
namespace Go.Proofs.YtclmbjbbojdojaaGreat.Ab
set_option linter.unusedVariables false
set_option linter.unusedSimpArgs false
set_option maxRecDepth 20000
set_option maxHeartbeats 4000000
open Go.RowKit
structure Address where
 machine:Int
 kind:Int
 index:Int
def Address.ds (c:Address):List D:=[.int .i64 c.machine,.int .i64 c.kind,.int .i64 c.index]
theorem Address.ds_eq (c:Address):c.ds=[.int .i64 c.machine,.int .i64 c.kind,.int .i64 c.index] :=rfl
@[go_sem] def Address.avs (c:Address):List AV:=[.int .i64 c.machine,.int .i64 c.kind,.int .i64 c.index]
@[go_sem] def Address.rv (c:Address):List RV:=[.int .i64 c.machine,.int .i64 c.kind,.int .i64 c.index]
@[go_sem] def Address.rvn (c:Address):List RV:=[.int .i64 c.machine,.int .i64 c.kind,.int .i64 c.index]
attribute [go_sem] Address.ds_eq
theorem Address.ds_len (c:Address):c.ds.length=3:=by rw [Address.ds_eq]; rfl
structure ShardCell where
 kind:Int
 level:Int
 value:Int
 data:List Int
 aux:List Address
def ShardCell.ds (c:ShardCell):List D:=[.int .i64 c.kind,.int .i64 c.level,.int .i64 c.value,.sl (c.data.map AB),.sl (c.aux.map Address.ds)]
theorem ShardCell.ds_eq (c:ShardCell):c.ds=[.int .i64 c.kind,.int .i64 c.level,.int .i64 c.value,.sl (c.data.map AB),.sl (c.aux.map Address.ds)] :=rfl
@[go_sem] def ShardCell.avs (c:ShardCell):List AV:=[.int .i64 c.kind,.int .i64 c.level,.int .i64 c.value,.ro (c.data.map AB),.ro (c.aux.map Address.ds)]
@[go_sem] def ShardCell.rv (c:ShardCell):List RV:=[.int .i64 c.kind,.int .i64 c.level,.int .i64 c.value,.ow (some 1) (c.data.map AB),.ow (some 3) (c.aux.map Address.ds)]
@[go_sem] def ShardCell.rvn (c:ShardCell):List RV:=[.int .i64 c.kind,.int .i64 c.level,.int .i64 c.value,.ow none (c.data.map AB),.ow none (c.aux.map Address.ds)]
attribute [go_sem] ShardCell.ds_eq
theorem ShardCell.ds_len (c:ShardCell):c.ds.length=5:=by rw [ShardCell.ds_eq]; rfl
def ShardCell.dz (c:ShardCell):List D:=[.int .i64 c.kind,.int .i64 c.level,.int .i64 c.value,.fz (c.data.map AB),.fz (c.aux.map Address.ds)]
@[go_sem] theorem ShardCell.dz_eq (c:ShardCell):c.dz=[.int .i64 c.kind,.int .i64 c.level,.int .i64 c.value,.fz (c.data.map AB),.fz (c.aux.map Address.ds)] :=rfl
theorem ShardCell.dz_len (c:ShardCell):c.dz.length=5:=rfl
theorem ShardCell.dz_fz (c:ShardCell):fzC c.ds=c.dz:=by rw [ShardCell.ds_eq]; rfl
theorem ShardCell.dz_ng (c:ShardCell):∀d ∈ c.ds,d≠ .gone :=by rw [ShardCell.ds_eq]; exact MF rfl
@[go_sem] theorem ShardCell.dz_er (l:List ShardCell):erR (l.map ShardCell.dz)=List.map ShardCell.ds l:=HX (fun c=>by rw [ShardCell.ds_eq]; simp only [ShardCell.dz,erC,er]) l
structure ShardVar where
 used:Bool
 full:Bool
 held:Address
def ShardVar.ds (c:ShardVar):List D:=[.bool c.used,.bool c.full,.int .i64 c.held.machine,.int .i64 c.held.kind,.int .i64 c.held.index]
theorem ShardVar.ds_eq (c:ShardVar):c.ds=[.bool c.used,.bool c.full,.int .i64 c.held.machine,.int .i64 c.held.kind,.int .i64 c.held.index] :=rfl
@[go_sem] def ShardVar.avs (c:ShardVar):List AV:=[.bool c.used,.bool c.full,.int .i64 c.held.machine,.int .i64 c.held.kind,.int .i64 c.held.index]
@[go_sem] def ShardVar.rv (c:ShardVar):List RV:=[.bool c.used,.bool c.full,.int .i64 c.held.machine,.int .i64 c.held.kind,.int .i64 c.held.index]
@[go_sem] def ShardVar.rvn (c:ShardVar):List RV:=[.bool c.used,.bool c.full,.int .i64 c.held.machine,.int .i64 c.held.kind,.int .i64 c.held.index]
attribute [go_sem] ShardVar.ds_eq
theorem ShardVar.ds_len (c:ShardVar):c.ds.length=5:=by rw [ShardVar.ds_eq]; rfl
structure ShardRedex where
 a:Address
 b:Address
def ShardRedex.ds (c:ShardRedex):List D:=[.int .i64 c.a.machine,.int .i64 c.a.kind,.int .i64 c.a.index,.int .i64 c.b.machine,.int .i64 c.b.kind,.int .i64 c.b.index]
theorem ShardRedex.ds_eq (c:ShardRedex):c.ds=[.int .i64 c.a.machine,.int .i64 c.a.kind,.int .i64 c.a.index,.int .i64 c.b.machine,.int .i64 c.b.kind,.int .i64 c.b.index] :=rfl
@[go_sem] def ShardRedex.avs (c:ShardRedex):List AV:=[.int .i64 c.a.machine,.int .i64 c.a.kind,.int .i64 c.a.index,.int .i64 c.b.machine,.int .i64 c.b.kind,.int .i64 c.b.index]
@[go_sem] def ShardRedex.rv (c:ShardRedex):List RV:=[.int .i64 c.a.machine,.int .i64 c.a.kind,.int .i64 c.a.index,.int .i64 c.b.machine,.int .i64 c.b.kind,.int .i64 c.b.index]
@[go_sem] def ShardRedex.rvn (c:ShardRedex):List RV:=[.int .i64 c.a.machine,.int .i64 c.a.kind,.int .i64 c.a.index,.int .i64 c.b.machine,.int .i64 c.b.kind,.int .i64 c.b.index]
attribute [go_sem] ShardRedex.ds_eq
theorem ShardRedex.ds_len (c:ShardRedex):c.ds.length=6:=by rw [ShardRedex.ds_eq]; rfl
structure Shard where
 cells:List ShardCell
 vars:List ShardVar
 redexes:List ShardRedex
def Shard.ds (c:Shard):List D:=[.sl (c.cells.map ShardCell.ds),.sl (c.vars.map ShardVar.ds),.sl (c.redexes.map ShardRedex.ds)]
theorem Shard.ds_eq (c:Shard):c.ds=[.sl (c.cells.map ShardCell.ds),.sl (c.vars.map ShardVar.ds),.sl (c.redexes.map ShardRedex.ds)] :=rfl
@[go_sem] def Shard.avs (c:Shard):List AV:=[.ro (c.cells.map ShardCell.ds),.ro (c.vars.map ShardVar.ds),.ro (c.redexes.map ShardRedex.ds)]
@[go_sem] def Shard.rv (c:Shard):List RV:=[.ow (some 5) (c.cells.map ShardCell.ds),.ow (some 5) (c.vars.map ShardVar.ds),.ow (some 6) (c.redexes.map ShardRedex.ds)]
@[go_sem] def Shard.rvn (c:Shard):List RV:=[.ow none (c.cells.map ShardCell.ds),.ow none (c.vars.map ShardVar.ds),.ow none (c.redexes.map ShardRedex.ds)]
attribute [go_sem] Shard.ds_eq
theorem Shard.ds_len (c:Shard):c.ds.length=3:=by rw [Shard.ds_eq]; rfl
def Shard.dz (c:Shard):List D:=[.fz (c.cells.map ShardCell.ds),.fz (c.vars.map ShardVar.ds),.fz (c.redexes.map ShardRedex.ds)]
@[go_sem] theorem Shard.dz_eq (c:Shard):c.dz=[.fz (c.cells.map ShardCell.ds),.fz (c.vars.map ShardVar.ds),.fz (c.redexes.map ShardRedex.ds)] :=rfl
theorem Shard.dz_len (c:Shard):c.dz.length=3:=rfl
theorem Shard.dz_fz (c:Shard):fzC c.ds=c.dz:=by rw [Shard.ds_eq]; rfl
theorem Shard.dz_ng (c:Shard):∀d ∈ c.ds,d≠ .gone :=by rw [Shard.ds_eq]; exact MF rfl
@[go_sem] theorem Shard.dz_er (l:List Shard):erR (l.map Shard.dz)=List.map Shard.ds l:=HX (fun c=>by rw [Shard.ds_eq]; simp only [Shard.dz,erC,er]) l
structure Grid where
 shards:List Shard
 root:Address
def Grid.ds (c:Grid):List D:=[.sl (c.shards.map Shard.ds),.int .i64 c.root.machine,.int .i64 c.root.kind,.int .i64 c.root.index]
theorem Grid.ds_eq (c:Grid):c.ds=[.sl (c.shards.map Shard.ds),.int .i64 c.root.machine,.int .i64 c.root.kind,.int .i64 c.root.index] :=rfl
@[go_sem] def Grid.avs (c:Grid):List AV:=[.ro (c.shards.map Shard.ds),.int .i64 c.root.machine,.int .i64 c.root.kind,.int .i64 c.root.index]
@[go_sem] def Grid.rv (c:Grid):List RV:=[.ow (some 3) (c.shards.map Shard.ds),.int .i64 c.root.machine,.int .i64 c.root.kind,.int .i64 c.root.index]
@[go_sem] def Grid.rvn (c:Grid):List RV:=[.ow none (c.shards.map Shard.ds),.int .i64 c.root.machine,.int .i64 c.root.kind,.int .i64 c.root.index]
attribute [go_sem] Grid.ds_eq
theorem Grid.ds_len (c:Grid):c.ds.length=4:=by rw [Grid.ds_eq]; rfl
def Grid.dz (c:Grid):List D:=[.fz (c.shards.map Shard.ds),.int .i64 c.root.machine,.int .i64 c.root.kind,.int .i64 c.root.index]
@[go_sem] theorem Grid.dz_eq (c:Grid):c.dz=[.fz (c.shards.map Shard.ds),.int .i64 c.root.machine,.int .i64 c.root.kind,.int .i64 c.root.index] :=rfl
theorem Grid.dz_len (c:Grid):c.dz.length=4:=rfl
theorem Grid.dz_fz (c:Grid):fzC c.ds=c.dz:=by rw [Grid.ds_eq]; rfl
theorem Grid.dz_ng (c:Grid):∀d ∈ c.ds,d≠ .gone :=by rw [Grid.ds_eq]; exact MF rfl
@[go_sem] theorem Grid.dz_er (l:List Grid):erR (l.map Grid.dz)=List.map Grid.ds l:=HX (fun c=>by rw [Grid.ds_eq]; simp only [Grid.dz,erC,er]) l
structure Parcel where
 kind:Int
 cell:ShardCell
 a:Address
 b:Address
def Parcel.ds (c:Parcel):List D:=[.int .i64 c.kind,.int .i64 c.cell.kind,.int .i64 c.cell.level,.int .i64 c.cell.value,.sl (c.cell.data.map AB),.sl (c.cell.aux.map Address.ds),.int .i64 c.a.machine,.int .i64 c.a.kind,.int .i64 c.a.index,.int .i64 c.b.machine,.int .i64 c.b.kind,.int .i64 c.b.index]
theorem Parcel.ds_eq (c:Parcel):c.ds=[.int .i64 c.kind,.int .i64 c.cell.kind,.int .i64 c.cell.level,.int .i64 c.cell.value,.sl (c.cell.data.map AB),.sl (c.cell.aux.map Address.ds),.int .i64 c.a.machine,.int .i64 c.a.kind,.int .i64 c.a.index,.int .i64 c.b.machine,.int .i64 c.b.kind,.int .i64 c.b.index] :=rfl
@[go_sem] def Parcel.avs (c:Parcel):List AV:=[.int .i64 c.kind,.int .i64 c.cell.kind,.int .i64 c.cell.level,.int .i64 c.cell.value,.ro (c.cell.data.map AB),.ro (c.cell.aux.map Address.ds),.int .i64 c.a.machine,.int .i64 c.a.kind,.int .i64 c.a.index,.int .i64 c.b.machine,.int .i64 c.b.kind,.int .i64 c.b.index]
@[go_sem] def Parcel.rv (c:Parcel):List RV:=[.int .i64 c.kind,.int .i64 c.cell.kind,.int .i64 c.cell.level,.int .i64 c.cell.value,.ow (some 1) (c.cell.data.map AB),.ow (some 3) (c.cell.aux.map Address.ds),.int .i64 c.a.machine,.int .i64 c.a.kind,.int .i64 c.a.index,.int .i64 c.b.machine,.int .i64 c.b.kind,.int .i64 c.b.index]
@[go_sem] def Parcel.rvn (c:Parcel):List RV:=[.int .i64 c.kind,.int .i64 c.cell.kind,.int .i64 c.cell.level,.int .i64 c.cell.value,.ow none (c.cell.data.map AB),.ow none (c.cell.aux.map Address.ds),.int .i64 c.a.machine,.int .i64 c.a.kind,.int .i64 c.a.index,.int .i64 c.b.machine,.int .i64 c.b.kind,.int .i64 c.b.index]
attribute [go_sem] Parcel.ds_eq
theorem Parcel.ds_len (c:Parcel):c.ds.length=12:=by rw [Parcel.ds_eq]; rfl
def Parcel.dz (c:Parcel):List D:=[.int .i64 c.kind,.int .i64 c.cell.kind,.int .i64 c.cell.level,.int .i64 c.cell.value,.fz (c.cell.data.map AB),.fz (c.cell.aux.map Address.ds),.int .i64 c.a.machine,.int .i64 c.a.kind,.int .i64 c.a.index,.int .i64 c.b.machine,.int .i64 c.b.kind,.int .i64 c.b.index]
@[go_sem] theorem Parcel.dz_eq (c:Parcel):c.dz=[.int .i64 c.kind,.int .i64 c.cell.kind,.int .i64 c.cell.level,.int .i64 c.cell.value,.fz (c.cell.data.map AB),.fz (c.cell.aux.map Address.ds),.int .i64 c.a.machine,.int .i64 c.a.kind,.int .i64 c.a.index,.int .i64 c.b.machine,.int .i64 c.b.kind,.int .i64 c.b.index] :=rfl
theorem Parcel.dz_len (c:Parcel):c.dz.length=12:=rfl
theorem Parcel.dz_fz (c:Parcel):fzC c.ds=c.dz:=by rw [Parcel.ds_eq]; rfl
theorem Parcel.dz_ng (c:Parcel):∀d ∈ c.ds,d≠ .gone :=by rw [Parcel.ds_eq]; exact MF rfl
@[go_sem] theorem Parcel.dz_er (l:List Parcel):erR (l.map Parcel.dz)=List.map Parcel.ds l:=HX (fun c=>by rw [Parcel.ds_eq]; simp only [Parcel.dz,erC,er]) l
structure Cluster where
 grid:Grid
 channels:List (List Parcel)
 counts:List (List Int)
 sent:List Int
 got:List Int
def Cluster.ds (c:Cluster):List D:=[.sl (c.grid.shards.map Shard.ds),.int .i64 c.grid.root.machine,.int .i64 c.grid.root.kind,.int .i64 c.grid.root.index,.sl (List.map (slD Parcel.ds) c.channels),.sl (List.map (slD AB) c.counts),.sl (c.sent.map AB),.sl (c.got.map AB)]
theorem Cluster.ds_eq (c:Cluster):c.ds=[.sl (c.grid.shards.map Shard.ds),.int .i64 c.grid.root.machine,.int .i64 c.grid.root.kind,.int .i64 c.grid.root.index,.sl (List.map (slD Parcel.ds) c.channels),.sl (List.map (slD AB) c.counts),.sl (c.sent.map AB),.sl (c.got.map AB)] :=rfl
@[go_sem] def Cluster.avs (c:Cluster):List AV:=[.ro (c.grid.shards.map Shard.ds),.int .i64 c.grid.root.machine,.int .i64 c.grid.root.kind,.int .i64 c.grid.root.index,.ro (List.map (slD Parcel.ds) c.channels),.ro (List.map (slD AB) c.counts),.ro (c.sent.map AB),.ro (c.got.map AB)]
@[go_sem] def Cluster.rv (c:Cluster):List RV:=[.ow (some 3) (c.grid.shards.map Shard.ds),.int .i64 c.grid.root.machine,.int .i64 c.grid.root.kind,.int .i64 c.grid.root.index,.ow (some 1) (List.map (slD Parcel.ds) c.channels),.ow (some 1) (List.map (slD AB) c.counts),.ow (some 1) (c.sent.map AB),.ow (some 1) (c.got.map AB)]
@[go_sem] def Cluster.rvn (c:Cluster):List RV:=[.ow none (c.grid.shards.map Shard.ds),.int .i64 c.grid.root.machine,.int .i64 c.grid.root.kind,.int .i64 c.grid.root.index,.ow none (List.map (slD Parcel.ds) c.channels),.ow none (List.map (slD AB) c.counts),.ow none (c.sent.map AB),.ow none (c.got.map AB)]
attribute [go_sem] Cluster.ds_eq
theorem Cluster.ds_len (c:Cluster):c.ds.length=8:=by rw [Cluster.ds_eq]; rfl
def Cluster.dz (c:Cluster):List D:=[.fz (c.grid.shards.map Shard.ds),.int .i64 c.grid.root.machine,.int .i64 c.grid.root.kind,.int .i64 c.grid.root.index,.fz (List.map (slD Parcel.ds) c.channels),.fz (List.map (slD AB) c.counts),.fz (c.sent.map AB),.fz (c.got.map AB)]
@[go_sem] theorem Cluster.dz_eq (c:Cluster):c.dz=[.fz (c.grid.shards.map Shard.ds),.int .i64 c.grid.root.machine,.int .i64 c.grid.root.kind,.int .i64 c.grid.root.index,.fz (List.map (slD Parcel.ds) c.channels),.fz (List.map (slD AB) c.counts),.fz (c.sent.map AB),.fz (c.got.map AB)] :=rfl
theorem Cluster.dz_len (c:Cluster):c.dz.length=8:=rfl
theorem Cluster.dz_fz (c:Cluster):fzC c.ds=c.dz:=by rw [Cluster.ds_eq]; rfl
theorem Cluster.dz_ng (c:Cluster):∀d ∈ c.ds,d≠ .gone :=by rw [Cluster.ds_eq]; exact MF rfl
@[go_sem] theorem Cluster.dz_er (l:List Cluster):erR (l.map Cluster.dz)=List.map Cluster.ds l:=HX (fun c=>by rw [Cluster.ds_eq]; simp only [Cluster.dz,erC,er]) l
def Shard.dn (c:Shard):List D:=[slN ShardCell.ds c.cells,slN ShardVar.ds c.vars,slN ShardRedex.ds c.redexes]
@[go_sem] theorem Shard.dn_eq (c:Shard):c.dn=[slN ShardCell.ds c.cells,slN ShardVar.ds c.vars,slN ShardRedex.ds c.redexes] :=rfl
def DB (a0:Address) (a1:Address):Option (Bool):=
 (if (!decide (a0.machine=a1.machine))=true then (some false) else (if (!decide (a0.kind=a1.kind))=true then (some false) else (if (!decide (a0.index=a1.index))=true then (some false) else (some true))))
def D2:Nat→(List Address)→(List Address)→Int→Option (Bool)
 |0,_,_,_=>none
 |n+1,a0,a1,p0_0=>(if (decide (p0_0<(a0.length:Int)))=true then ((at? a0 p0_0).bind fun v7002=>((at? a1 p0_0).bind fun v7006=>((DB v7002 v7006).bind fun v7008=>(if (!v7008)=true then (some false) else (D2 n a0 a1 (IntKind.i64.wrap (p0_0+1))))))) else (some true))
def IL (a0:List Address) (a1:List Address):Option (Bool):=
 (if (!decide ((a0.length:Int)=(a1.length:Int)))=true then (some false) else (D2 fuel a0 a1 0))
def FK (a0:ShardCell) (a1:ShardCell):Option (Bool):=
 (if (!decide (a0.kind=a1.kind))=true then (some false) else (if (!decide (a0.level=a1.level))=true then (some false) else (if (!decide (a0.value=a1.value))=true then (some false) else ((Fv a0.data a1.data).bind fun v8004=>(if (!v8004)=true then (some false) else ((IL a0.aux a1.aux).bind fun v10004=>(if (!v10004)=true then (some false) else (some true))))))))
def C1:Nat→(List ShardCell)→(List ShardCell)→Int→Option (Bool)
 |0,_,_,_=>none
 |n+1,a0,a1,p0_0=>(if (decide (p0_0<(a0.length:Int)))=true then ((at? a0 p0_0).bind fun v7002=>((at? a1 p0_0).bind fun v7006=>((FK v7002 v7006).bind fun v7008=>(if (!v7008)=true then (some false) else (C1 n a0 a1 (IntKind.i64.wrap (p0_0+1))))))) else (some true))
def Gp (a0:List ShardCell) (a1:List ShardCell):Option (Bool):=
 (if (!decide ((a0.length:Int)=(a1.length:Int)))=true then (some false) else (C1 fuel a0 a1 0))
def G7 (a0:ShardVar) (a1:ShardVar):Option (Bool):=
 (if (!(a0.used == a1.used))=true then (some false) else (if (!(a0.full == a1.full))=true then (some false) else ((DB a0.held a1.held).bind fun v6004=>(if (!v6004)=true then (some false) else (some true)))))
def DM:Nat→(List ShardVar)→(List ShardVar)→Int→Option (Bool)
 |0,_,_,_=>none
 |n+1,a0,a1,p0_0=>(if (decide (p0_0<(a0.length:Int)))=true then ((at? a0 p0_0).bind fun v7002=>((at? a1 p0_0).bind fun v7006=>((G7 v7002 v7006).bind fun v7008=>(if (!v7008)=true then (some false) else (DM n a0 a1 (IntKind.i64.wrap (p0_0+1))))))) else (some true))
def HN (a0:List ShardVar) (a1:List ShardVar):Option (Bool):=
 (if (!decide ((a0.length:Int)=(a1.length:Int)))=true then (some false) else (DM fuel a0 a1 0))
def Ff (a0:ShardRedex) (a1:ShardRedex):Option (Bool):=
 ((DB a0.a a1.a).bind fun v2004=>(if (!v2004)=true then (some false) else ((DB a0.b a1.b).bind fun v4004=>(if (!v4004)=true then (some false) else (some true)))))
def Ch:Nat→(List ShardRedex)→(List ShardRedex)→Int→Option (Bool)
 |0,_,_,_=>none
 |n+1,a0,a1,p0_0=>(if (decide (p0_0<(a0.length:Int)))=true then ((at? a0 p0_0).bind fun v7002=>((at? a1 p0_0).bind fun v7006=>((Ff v7002 v7006).bind fun v7008=>(if (!v7008)=true then (some false) else (Ch n a0 a1 (IntKind.i64.wrap (p0_0+1))))))) else (some true))
def GI (a0:List ShardRedex) (a1:List ShardRedex):Option (Bool):=
 (if (!decide ((a0.length:Int)=(a1.length:Int)))=true then (some false) else (Ch fuel a0 a1 0))
def Jv (a0:Shard) (a1:Shard):Option (Bool):=
 ((Gp a0.cells a1.cells).bind fun v2004=>(if (!v2004)=true then (some false) else ((HN a0.vars a1.vars).bind fun v4004=>(if (!v4004)=true then (some false) else ((GI a0.redexes a1.redexes).bind fun v6004=>(if (!v6004)=true then (some false) else (some true)))))))
def FL:Nat→(List Shard)→(List Shard)→Int→Option (Bool)
 |0,_,_,_=>none
 |n+1,a0,a1,p0_0=>(if (decide (p0_0<(a0.length:Int)))=true then ((at? a0 p0_0).bind fun v7002=>((at? a1 p0_0).bind fun v7006=>((Jv v7002 v7006).bind fun v7008=>(if (!v7008)=true then (some false) else (FL n a0 a1 (IntKind.i64.wrap (p0_0+1))))))) else (some true))
def KR (a0:List Shard) (a1:List Shard):Option (Bool):=
 (if (!decide ((a0.length:Int)=(a1.length:Int)))=true then (some false) else (FL fuel a0 a1 0))
def NN (a0:Grid) (a1:Grid):Option (Bool):=
 ((KR a0.shards a1.shards).bind fun v2004=>(if (!v2004)=true then (some false) else ((DB a0.root a1.root).bind fun v4004=>(if (!v4004)=true then (some false) else (some true)))))
def Ir (a0:Parcel) (a1:Parcel):Option (Bool):=
 (if (!decide (a0.kind=a1.kind))=true then (some false) else ((FK a0.cell a1.cell).bind fun v4004=>(if (!v4004)=true then (some false) else ((DB a0.a a1.a).bind fun v6004=>(if (!v6004)=true then (some false) else ((DB a0.b a1.b).bind fun v8004=>(if (!v8004)=true then (some false) else (some true))))))))
def Eb:Nat→(List Parcel)→(List Parcel)→Int→Option (Bool)
 |0,_,_,_=>none
 |n+1,a0,a1,p0_0=>(if (decide (p0_0<(a0.length:Int)))=true then ((at? a0 p0_0).bind fun v7002=>((at? a1 p0_0).bind fun v7006=>((Ir v7002 v7006).bind fun v7008=>(if (!v7008)=true then (some false) else (Eb n a0 a1 (IntKind.i64.wrap (p0_0+1))))))) else (some true))
def Hw (a0:List Parcel) (a1:List Parcel):Option (Bool):=
 (if (!decide ((a0.length:Int)=(a1.length:Int)))=true then (some false) else (Eb fuel a0 a1 0))
def D3:Nat→(List (List Parcel))→(List (List Parcel))→Int→Option (Bool)
 |0,_,_,_=>none
 |n+1,a0,a1,p0_0=>(if (decide (p0_0<(a0.length:Int)))=true then ((at? a0 p0_0).bind fun v7002=>((at? a1 p0_0).bind fun v7006=>((Hw v7002 v7006).bind fun v7008=>(if (!v7008)=true then (some false) else (D3 n a0 a1 (IntKind.i64.wrap (p0_0+1))))))) else (some true))
def IM (a0:List (List Parcel)) (a1:List (List Parcel)):Option (Bool):=
 (if (!decide ((a0.length:Int)=(a1.length:Int)))=true then (some false) else (D3 fuel a0 a1 0))
def Ec:Nat→(List (List Int))→(List (List Int))→Int→Option (Bool)
 |0,_,_,_=>none
 |n+1,a0,a1,p0_0=>(if (decide (p0_0<(a0.length:Int)))=true then ((at? a0 p0_0).bind fun v7002=>((at? a1 p0_0).bind fun v7006=>((Fv v7002 v7006).bind fun v7008=>(if (!v7008)=true then (some false) else (Ec n a0 a1 (IntKind.i64.wrap (p0_0+1))))))) else (some true))
def JK (a0:List (List Int)) (a1:List (List Int)):Option (Bool):=
 (if (!decide ((a0.length:Int)=(a1.length:Int)))=true then (some false) else (Ec fuel a0 a1 0))
def JA (a0:Cluster) (a1:Cluster):Option (Bool):=
 ((NN a0.grid a1.grid).bind fun v2004=>(if (!v2004)=true then (some false) else ((IM a0.channels a1.channels).bind fun v4004=>(if (!v4004)=true then (some false) else ((JK a0.counts a1.counts).bind fun v6004=>(if (!v6004)=true then (some false) else ((Fv a0.sent a1.sent).bind fun v8004=>(if (!v8004)=true then (some false) else ((Fv a0.got a1.got).bind fun v10004=>(if (!v10004)=true then (some false) else (some true)))))))))))
def F7:Nat→(List Bool)→(List Bool)→Int→Option (Bool)
 |0,_,_,_=>none
 |n+1,a0,a1,p0_0=>(if (decide (p0_0<(a0.length:Int)))=true then ((at? a0 p0_0).bind fun v7002=>((at? a1 p0_0).bind fun v7006=>(if (!(v7002 == v7006))=true then (some false) else (F7 n a0 a1 (IntKind.i64.wrap (p0_0+1)))))) else (some true))
def Ld (a0:List Bool) (a1:List Bool):Option (Bool):=
 (if (!decide ((a0.length:Int)=(a1.length:Int)))=true then (some false) else (F7 fuel a0 a1 0))
def CL:Nat→(List Address)→Int→Int→Option (Int × (List Address))
 |0,_,_,_=>none
 |n+1,p0_0,p0_1,p0_2=>(if (decide (p0_2<(p0_0.length:Int)))=true then ((at? p0_0 p0_2).bind fun v5003=>((A4 p0_0 p0_2 (⟨p0_1,v5003.kind,v5003.index⟩:Address)).bind fun v5005_22=>((at? v5005_22 p0_2).bind fun v7003=>((A4 v5005_22 p0_2 (⟨v7003.machine,(IntKind.i64.wrap (p0_1+1)),v7003.index⟩:Address)).bind fun v7005_23=>((at? v7005_23 p0_2).bind fun v9003=>((A4 v7005_23 p0_2 (⟨v9003.machine,v9003.kind,(IntKind.i64.wrap ((IntKind.i64.wrap (p0_1+1))+1))⟩:Address)).bind fun v9005_24=>(CL n v9005_24 (IntKind.i64.wrap ((IntKind.i64.wrap ((IntKind.i64.wrap (p0_1+1))+1))+1)) (IntKind.i64.wrap (p0_2+1))))))))) else (some (p0_1,p0_0)))
def Fg (a0:List Address) (a1:Int):Option (Int × (List Address)):=
 (CL fuel a0 a1 0)
def Bp:Nat→(List ShardCell)→Int→Int→Option (Int × (List ShardCell))
 |0,_,_,_=>none
 |n+1,p0_0,p0_1,p0_2=>(if (decide (p0_2<(p0_0.length:Int)))=true then ((at? p0_0 p0_2).bind fun v5003=>((A4 p0_0 p0_2 (⟨p0_1,v5003.level,v5003.value,v5003.data,v5003.aux⟩:ShardCell)).bind fun v5005_43=>((at? v5005_43 p0_2).bind fun v7003=>((A4 v5005_43 p0_2 (⟨v7003.kind,(IntKind.i64.wrap (p0_1+1)),v7003.value,v7003.data,v7003.aux⟩:ShardCell)).bind fun v7005_44=>((at? v7005_44 p0_2).bind fun v9003=>((A4 v7005_44 p0_2 (⟨v9003.kind,v9003.level,(IntKind.i64.wrap ((IntKind.i64.wrap (p0_1+1))+1)),v9003.data,v9003.aux⟩:ShardCell)).bind fun v9005_45=>((at? v9005_45 p0_2).bind fun v11002=>((D8 v11002.data (IntKind.i64.wrap ((IntKind.i64.wrap ((IntKind.i64.wrap (p0_1+1))+1))+1))).bind fun v11006=>((A4 v9005_45 p0_2 (⟨v11002.kind,v11002.level,v11002.value,v11006.2,v11002.aux⟩:ShardCell)).bind fun v11006_47=>((at? v11006_47 p0_2).bind fun v12002=>((Fg v12002.aux v11006.1).bind fun v12006=>((A4 v11006_47 p0_2 (⟨v12002.kind,v12002.level,v12002.value,v12002.data,v12006.2⟩:ShardCell)).bind fun v12006_48=>(Bp n v12006_48 v12006.1 (IntKind.i64.wrap (p0_2+1))))))))))))))) else (some (p0_1,p0_0)))
def Fh (a0:List ShardCell) (a1:Int):Option (Int × (List ShardCell)):=
 (Bp fuel a0 a1 0)
def CB:Nat→(List ShardVar)→Int→Int→Option (Int × (List ShardVar))
 |0,_,_,_=>none
 |n+1,p0_0,p0_1,p0_2=>(if (decide (p0_2<(p0_0.length:Int)))=true then ((at? p0_0 p0_2).bind fun v5005=>((A4 p0_0 p0_2 (⟨(decide ((Int.tmod p0_1 3)=0)),v5005.full,v5005.held⟩:ShardVar)).bind fun v5007_36=>((at? v5007_36 p0_2).bind fun v7005=>((A4 v5007_36 p0_2 (⟨v7005.used,(decide ((Int.tmod (IntKind.i64.wrap (p0_1+1)) 3)=0)),v7005.held⟩:ShardVar)).bind fun v7007_37=>((at? v7007_37 p0_2).bind fun v9003=>((A4 v7007_37 p0_2 (⟨v9003.used,v9003.full,(⟨(IntKind.i64.wrap ((IntKind.i64.wrap (p0_1+1))+1)),v9003.held.kind,v9003.held.index⟩:Address)⟩:ShardVar)).bind fun v9006_38=>((at? v9006_38 p0_2).bind fun v11003=>((A4 v9006_38 p0_2 (⟨v11003.used,v11003.full,(⟨v11003.held.machine,(IntKind.i64.wrap ((IntKind.i64.wrap ((IntKind.i64.wrap (p0_1+1))+1))+1)),v11003.held.index⟩:Address)⟩:ShardVar)).bind fun v11006_39=>((at? v11006_39 p0_2).bind fun v13003=>((A4 v11006_39 p0_2 (⟨v13003.used,v13003.full,(⟨v13003.held.machine,v13003.held.kind,(IntKind.i64.wrap ((IntKind.i64.wrap ((IntKind.i64.wrap ((IntKind.i64.wrap (p0_1+1))+1))+1))+1))⟩:Address)⟩:ShardVar)).bind fun v13006_40=>(CB n v13006_40 (IntKind.i64.wrap ((IntKind.i64.wrap ((IntKind.i64.wrap ((IntKind.i64.wrap ((IntKind.i64.wrap (p0_1+1))+1))+1))+1))+1)) (IntKind.i64.wrap (p0_2+1))))))))))))) else (some (p0_1,p0_0)))
def GJ (a0:List ShardVar) (a1:Int):Option (Int × (List ShardVar)):=
 (CB fuel a0 a1 0)
def BY:Nat→(List ShardRedex)→Int→Int→Option (Int × (List ShardRedex))
 |0,_,_,_=>none
 |n+1,p0_0,p0_1,p0_2=>(if (decide (p0_2<(p0_0.length:Int)))=true then ((at? p0_0 p0_2).bind fun v5003=>((A4 p0_0 p0_2 (⟨(⟨p0_1,v5003.a.kind,v5003.a.index⟩:Address),v5003.b⟩:ShardRedex)).bind fun v5006_43=>((at? v5006_43 p0_2).bind fun v7003=>((A4 v5006_43 p0_2 (⟨(⟨v7003.a.machine,(IntKind.i64.wrap (p0_1+1)),v7003.a.index⟩:Address),v7003.b⟩:ShardRedex)).bind fun v7006_44=>((at? v7006_44 p0_2).bind fun v9003=>((A4 v7006_44 p0_2 (⟨(⟨v9003.a.machine,v9003.a.kind,(IntKind.i64.wrap ((IntKind.i64.wrap (p0_1+1))+1))⟩:Address),v9003.b⟩:ShardRedex)).bind fun v9006_45=>((at? v9006_45 p0_2).bind fun v11003=>((A4 v9006_45 p0_2 (⟨v11003.a,(⟨(IntKind.i64.wrap ((IntKind.i64.wrap ((IntKind.i64.wrap (p0_1+1))+1))+1)),v11003.b.kind,v11003.b.index⟩:Address)⟩:ShardRedex)).bind fun v11006_46=>((at? v11006_46 p0_2).bind fun v13003=>((A4 v11006_46 p0_2 (⟨v13003.a,(⟨v13003.b.machine,(IntKind.i64.wrap ((IntKind.i64.wrap ((IntKind.i64.wrap ((IntKind.i64.wrap (p0_1+1))+1))+1))+1)),v13003.b.index⟩:Address)⟩:ShardRedex)).bind fun v13006_47=>((at? v13006_47 p0_2).bind fun v15003=>((A4 v13006_47 p0_2 (⟨v15003.a,(⟨v15003.b.machine,v15003.b.kind,(IntKind.i64.wrap ((IntKind.i64.wrap ((IntKind.i64.wrap ((IntKind.i64.wrap ((IntKind.i64.wrap (p0_1+1))+1))+1))+1))+1))⟩:Address)⟩:ShardRedex)).bind fun v15006_48=>(BY n v15006_48 (IntKind.i64.wrap ((IntKind.i64.wrap ((IntKind.i64.wrap ((IntKind.i64.wrap ((IntKind.i64.wrap ((IntKind.i64.wrap (p0_1+1))+1))+1))+1))+1))+1)) (IntKind.i64.wrap (p0_2+1))))))))))))))) else (some (p0_1,p0_0)))
def E2 (a0:List ShardRedex) (a1:Int):Option (Int × (List ShardRedex)):=
 (BY fuel a0 a1 0)
def DC:Nat→(List Shard)→Int→Int→Option (Int × (List Shard))
 |0,_,_,_=>none
 |n+1,p0_0,p0_1,p0_2=>(if (decide (p0_2<(p0_0.length:Int)))=true then ((at? p0_0 p0_2).bind fun v5002=>((Fh v5002.cells p0_1).bind fun v5006=>((A4 p0_0 p0_2 (⟨v5006.2,v5002.vars,v5002.redexes⟩:Shard)).bind fun v5006_37=>((at? v5006_37 p0_2).bind fun v6002=>((GJ v6002.vars v5006.1).bind fun v6006=>((A4 v5006_37 p0_2 (⟨v6002.cells,v6006.2,v6002.redexes⟩:Shard)).bind fun v6006_39=>((at? v6006_39 p0_2).bind fun v7002=>((E2 v7002.redexes v6006.1).bind fun v7006=>((A4 v6006_39 p0_2 (⟨v7002.cells,v7002.vars,v7006.2⟩:Shard)).bind fun v7006_40=>(DC n v7006_40 v7006.1 (IntKind.i64.wrap (p0_2+1)))))))))))) else (some (p0_1,p0_0)))
def IN (a0:List Shard) (a1:Int):Option (Int × (List Shard)):=
 (DC fuel a0 a1 0)
def MH (a0:Grid) (a1:Int):Option (Int × (List Shard)):=
 ((IN a0.shards a1).bind fun v2003=>(some (v2003.1,v2003.2)))
def Cn:Nat→(List Parcel)→Int→Int→Option (Int × (List Parcel))
 |0,_,_,_=>none
 |n+1,p0_0,p0_1,p0_2=>(if (decide (p0_2<(p0_0.length:Int)))=true then ((at? p0_0 p0_2).bind fun v5003=>((A4 p0_0 p0_2 (⟨p0_1,v5003.cell,v5003.a,v5003.b⟩:Parcel)).bind fun v5005_99=>((at? v5005_99 p0_2).bind fun v7003=>((A4 v5005_99 p0_2 (⟨v7003.kind,(⟨(IntKind.i64.wrap (p0_1+1)),v7003.cell.level,v7003.cell.value,v7003.cell.data,v7003.cell.aux⟩:ShardCell),v7003.a,v7003.b⟩:Parcel)).bind fun v7006_100=>((at? v7006_100 p0_2).bind fun v9003=>((A4 v7006_100 p0_2 (⟨v9003.kind,(⟨v9003.cell.kind,(IntKind.i64.wrap ((IntKind.i64.wrap (p0_1+1))+1)),v9003.cell.value,v9003.cell.data,v9003.cell.aux⟩:ShardCell),v9003.a,v9003.b⟩:Parcel)).bind fun v9006_101=>((at? v9006_101 p0_2).bind fun v11003=>((A4 v9006_101 p0_2 (⟨v11003.kind,(⟨v11003.cell.kind,v11003.cell.level,(IntKind.i64.wrap ((IntKind.i64.wrap ((IntKind.i64.wrap (p0_1+1))+1))+1)),v11003.cell.data,v11003.cell.aux⟩:ShardCell),v11003.a,v11003.b⟩:Parcel)).bind fun v11006_102=>((at? v11006_102 p0_2).bind fun v13002=>((D8 v13002.cell.data (IntKind.i64.wrap ((IntKind.i64.wrap ((IntKind.i64.wrap ((IntKind.i64.wrap (p0_1+1))+1))+1))+1))).bind fun v13007=>((A4 v11006_102 p0_2 (⟨v13002.kind,(⟨v13002.cell.kind,v13002.cell.level,v13002.cell.value,v13007.2,v13002.cell.aux⟩:ShardCell),v13002.a,v13002.b⟩:Parcel)).bind fun v13007_104=>((at? v13007_104 p0_2).bind fun v14002=>((Fg v14002.cell.aux v13007.1).bind fun v14007=>((A4 v13007_104 p0_2 (⟨v14002.kind,(⟨v14002.cell.kind,v14002.cell.level,v14002.cell.value,v14002.cell.data,v14007.2⟩:ShardCell),v14002.a,v14002.b⟩:Parcel)).bind fun v14007_106=>((at? v14007_106 p0_2).bind fun v15003=>((A4 v14007_106 p0_2 (⟨v15003.kind,v15003.cell,(⟨v14007.1,v15003.a.kind,v15003.a.index⟩:Address),v15003.b⟩:Parcel)).bind fun v15006_107=>((at? v15006_107 p0_2).bind fun v17003=>((A4 v15006_107 p0_2 (⟨v17003.kind,v17003.cell,(⟨v17003.a.machine,(IntKind.i64.wrap (v14007.1 +1)),v17003.a.index⟩:Address),v17003.b⟩:Parcel)).bind fun v17006_108=>((at? v17006_108 p0_2).bind fun v19003=>((A4 v17006_108 p0_2 (⟨v19003.kind,v19003.cell,(⟨v19003.a.machine,v19003.a.kind,(IntKind.i64.wrap ((IntKind.i64.wrap (v14007.1 +1))+1))⟩:Address),v19003.b⟩:Parcel)).bind fun v19006_109=>((at? v19006_109 p0_2).bind fun v21003=>((A4 v19006_109 p0_2 (⟨v21003.kind,v21003.cell,v21003.a,(⟨(IntKind.i64.wrap ((IntKind.i64.wrap ((IntKind.i64.wrap (v14007.1 +1))+1))+1)),v21003.b.kind,v21003.b.index⟩:Address)⟩:Parcel)).bind fun v21006_110=>((at? v21006_110 p0_2).bind fun v23003=>((A4 v21006_110 p0_2 (⟨v23003.kind,v23003.cell,v23003.a,(⟨v23003.b.machine,(IntKind.i64.wrap ((IntKind.i64.wrap ((IntKind.i64.wrap ((IntKind.i64.wrap (v14007.1 +1))+1))+1))+1)),v23003.b.index⟩:Address)⟩:Parcel)).bind fun v23006_111=>((at? v23006_111 p0_2).bind fun v25003=>((A4 v23006_111 p0_2 (⟨v25003.kind,v25003.cell,v25003.a,(⟨v25003.b.machine,v25003.b.kind,(IntKind.i64.wrap ((IntKind.i64.wrap ((IntKind.i64.wrap ((IntKind.i64.wrap ((IntKind.i64.wrap (v14007.1 +1))+1))+1))+1))+1))⟩:Address)⟩:Parcel)).bind fun v25006_112=>(Cn n v25006_112 (IntKind.i64.wrap ((IntKind.i64.wrap ((IntKind.i64.wrap ((IntKind.i64.wrap ((IntKind.i64.wrap ((IntKind.i64.wrap (v14007.1 +1))+1))+1))+1))+1))+1)) (IntKind.i64.wrap (p0_2+1))))))))))))))))))))))))))))) else (some (p0_1,p0_0)))
def HO (a0:List Parcel) (a1:Int):Option (Int × (List Parcel)):=
 (Cn fuel a0 a1 0)
def CM:Nat→(List (List Parcel))→Int→Int→Option (Int × (List (List Parcel)))
 |0,_,_,_=>none
 |n+1,p0_0,p0_1,p0_2=>(if (decide (p0_2<(p0_0.length:Int)))=true then ((at? p0_0 p0_2).bind fun v5002=>((HO v5002 p0_1).bind fun v5005=>((A4 p0_0 p0_2 v5005.2).bind fun v5005_8=>(CM n v5005_8 v5005.1 (IntKind.i64.wrap (p0_2+1)))))) else (some (p0_1,p0_0)))
def Gq (a0:List (List Parcel)) (a1:Int):Option (Int × (List (List Parcel))):=
 (CM fuel a0 a1 0)
def Co:Nat→(List (List Int))→Int→Int→Option (Int × (List (List Int)))
 |0,_,_,_=>none
 |n+1,p0_0,p0_1,p0_2=>(if (decide (p0_2<(p0_0.length:Int)))=true then ((at? p0_0 p0_2).bind fun v5002=>((D8 v5002 p0_1).bind fun v5005=>((A4 p0_0 p0_2 v5005.2).bind fun v5005_8=>(Co n v5005_8 v5005.1 (IntKind.i64.wrap (p0_2+1)))))) else (some (p0_1,p0_0)))
def HP (a0:List (List Int)) (a1:Int):Option (Int × (List (List Int))):=
 (Co fuel a0 a1 0)
def Iy (a0:Cluster) (a1:Int):Option (Int × (List Shard) × (List (List Parcel)) × (List (List Int)) × (List Int) × (List Int)):=
 ((MH a0.grid a1).bind fun v2003=>((Gq a0.channels v2003.1).bind fun v3003=>((HP a0.counts v3003.1).bind fun v4003=>((D8 a0.sent v4003.1).bind fun v5003=>((D8 a0.got v5003.1).bind fun v6003=>(some (v6003.1,v2003.2,v3003.2,v4003.2,v5003.2,v6003.2)))))))
def Dj:Nat→(List Bool)→Int→Int→Option (Int × (List Bool))
 |0,_,_,_=>none
 |n+1,p0_0,p0_1,p0_2=>(if (decide (p0_2<(p0_0.length:Int)))=true then ((at? p0_0 p0_2).bind fun v5005=>((A4 p0_0 p0_2 (decide ((Int.tmod p0_1 3)=0))).bind fun v5006_8=>(Dj n v5006_8 (IntKind.i64.wrap (p0_1+1)) (IntKind.i64.wrap (p0_2+1))))) else (some (p0_1,p0_0)))
def JB (a0:List Bool) (a1:Int):Option (Int × (List Bool)):=
 (Dj fuel a0 a1 0)
def CN:Nat→(List Address)→Int→Int→Option (Int)
 |0,_,_,_=>none
 |n+1,a0,p0_0,p0_1=>(if (decide (p0_1<(a0.length:Int)))=true then ((at? a0 p0_1).bind fun v5002=>(if (!decide (v5002.machine=p0_0))=true then (some (-1)) else ((at? a0 p0_1).bind fun v8002=>(if (!decide (v8002.kind=(IntKind.i64.wrap (p0_0+1))))=true then (some (-1)) else ((at? a0 p0_1).bind fun v11002=>(if (!decide (v11002.index=(IntKind.i64.wrap ((IntKind.i64.wrap (p0_0+1))+1))))=true then (some (-1)) else (CN n a0 (IntKind.i64.wrap ((IntKind.i64.wrap ((IntKind.i64.wrap (p0_0+1))+1))+1)) (IntKind.i64.wrap (p0_1+1))))))))) else (some p0_0))
def Fi (a0:List Address) (a1:Int):Option (Int):=
 (CN fuel a0 a1 0)
def Bq:Nat→(List ShardCell)→Int→Int→Option (Int)
 |0,_,_,_=>none
 |n+1,a0,p0_0,p0_1=>(if (decide (p0_1<(a0.length:Int)))=true then ((at? a0 p0_1).bind fun v5002=>(if (!decide (v5002.kind=p0_0))=true then (some (-1)) else ((at? a0 p0_1).bind fun v8002=>(if (!decide (v8002.level=(IntKind.i64.wrap (p0_0+1))))=true then (some (-1)) else ((at? a0 p0_1).bind fun v11002=>(if (!decide (v11002.value=(IntKind.i64.wrap ((IntKind.i64.wrap (p0_0+1))+1))))=true then (some (-1)) else ((at? a0 p0_1).bind fun v14002=>((D9 v14002.data (IntKind.i64.wrap ((IntKind.i64.wrap ((IntKind.i64.wrap (p0_0+1))+1))+1))).bind fun v14006=>(if (decide (v14006<0))=true then (some (-1)) else ((at? a0 p0_1).bind fun v17002=>((Fi v17002.aux v14006).bind fun v17006=>(if (decide (v17006<0))=true then (some (-1)) else (Bq n a0 v17006 (IntKind.i64.wrap (p0_1+1))))))))))))))) else (some p0_0))
def Fj (a0:List ShardCell) (a1:Int):Option (Int):=
 (Bq fuel a0 a1 0)
def CC:Nat→(List ShardVar)→Int→Int→Option (Int)
 |0,_,_,_=>none
 |n+1,a0,p0_0,p0_1=>(if (decide (p0_1<(a0.length:Int)))=true then ((at? a0 p0_1).bind fun v5002=>(if (!(v5002.used == (decide ((Int.tmod p0_0 3)=0))))=true then (some (-1)) else ((at? a0 p0_1).bind fun v8002=>(if (!(v8002.full == (decide ((Int.tmod (IntKind.i64.wrap (p0_0+1)) 3)=0))))=true then (some (-1)) else ((at? a0 p0_1).bind fun v11002=>(if (!decide (v11002.held.machine=(IntKind.i64.wrap ((IntKind.i64.wrap (p0_0+1))+1))))=true then (some (-1)) else ((at? a0 p0_1).bind fun v14002=>(if (!decide (v14002.held.kind=(IntKind.i64.wrap ((IntKind.i64.wrap ((IntKind.i64.wrap (p0_0+1))+1))+1))))=true then (some (-1)) else ((at? a0 p0_1).bind fun v17002=>(if (!decide (v17002.held.index=(IntKind.i64.wrap ((IntKind.i64.wrap ((IntKind.i64.wrap ((IntKind.i64.wrap (p0_0+1))+1))+1))+1))))=true then (some (-1)) else (CC n a0 (IntKind.i64.wrap ((IntKind.i64.wrap ((IntKind.i64.wrap ((IntKind.i64.wrap ((IntKind.i64.wrap (p0_0+1))+1))+1))+1))+1)) (IntKind.i64.wrap (p0_1+1))))))))))))) else (some p0_0))
def GK (a0:List ShardVar) (a1:Int):Option (Int):=
 (CC fuel a0 a1 0)
def BZ:Nat→(List ShardRedex)→Int→Int→Option (Int)
 |0,_,_,_=>none
 |n+1,a0,p0_0,p0_1=>(if (decide (p0_1<(a0.length:Int)))=true then ((at? a0 p0_1).bind fun v5002=>(if (!decide (v5002.a.machine=p0_0))=true then (some (-1)) else ((at? a0 p0_1).bind fun v8002=>(if (!decide (v8002.a.kind=(IntKind.i64.wrap (p0_0+1))))=true then (some (-1)) else ((at? a0 p0_1).bind fun v11002=>(if (!decide (v11002.a.index=(IntKind.i64.wrap ((IntKind.i64.wrap (p0_0+1))+1))))=true then (some (-1)) else ((at? a0 p0_1).bind fun v14002=>(if (!decide (v14002.b.machine=(IntKind.i64.wrap ((IntKind.i64.wrap ((IntKind.i64.wrap (p0_0+1))+1))+1))))=true then (some (-1)) else ((at? a0 p0_1).bind fun v17002=>(if (!decide (v17002.b.kind=(IntKind.i64.wrap ((IntKind.i64.wrap ((IntKind.i64.wrap ((IntKind.i64.wrap (p0_0+1))+1))+1))+1))))=true then (some (-1)) else ((at? a0 p0_1).bind fun v20002=>(if (!decide (v20002.b.index=(IntKind.i64.wrap ((IntKind.i64.wrap ((IntKind.i64.wrap ((IntKind.i64.wrap ((IntKind.i64.wrap (p0_0+1))+1))+1))+1))+1))))=true then (some (-1)) else (BZ n a0 (IntKind.i64.wrap ((IntKind.i64.wrap ((IntKind.i64.wrap ((IntKind.i64.wrap ((IntKind.i64.wrap ((IntKind.i64.wrap (p0_0+1))+1))+1))+1))+1))+1)) (IntKind.i64.wrap (p0_1+1))))))))))))))) else (some p0_0))
def E3 (a0:List ShardRedex) (a1:Int):Option (Int):=
 (BZ fuel a0 a1 0)
def DD:Nat→(List Shard)→Int→Int→Option (Int)
 |0,_,_,_=>none
 |n+1,a0,p0_0,p0_1=>(if (decide (p0_1<(a0.length:Int)))=true then ((at? a0 p0_1).bind fun v5002=>((Fj v5002.cells p0_0).bind fun v5006=>(if (decide (v5006<0))=true then (some (-1)) else ((at? a0 p0_1).bind fun v8002=>((GK v8002.vars v5006).bind fun v8006=>(if (decide (v8006<0))=true then (some (-1)) else ((at? a0 p0_1).bind fun v11002=>((E3 v11002.redexes v8006).bind fun v11006=>(if (decide (v11006<0))=true then (some (-1)) else (DD n a0 v11006 (IntKind.i64.wrap (p0_1+1)))))))))))) else (some p0_0))
def IP (a0:List Shard) (a1:Int):Option (Int):=
 (DD fuel a0 a1 0)
def MI (a0:Grid) (a1:Int):Option (Int):=
 ((IP a0.shards a1).bind fun v2003=>(if (decide (v2003<0))=true then (some (-1)) else (some v2003)))
def Cp:Nat→(List Parcel)→Int→Int→Option (Int)
 |0,_,_,_=>none
 |n+1,a0,p0_0,p0_1=>(if (decide (p0_1<(a0.length:Int)))=true then ((at? a0 p0_1).bind fun v5002=>(if (!decide (v5002.kind=p0_0))=true then (some (-1)) else ((at? a0 p0_1).bind fun v8002=>(if (!decide (v8002.cell.kind=(IntKind.i64.wrap (p0_0+1))))=true then (some (-1)) else ((at? a0 p0_1).bind fun v11002=>(if (!decide (v11002.cell.level=(IntKind.i64.wrap ((IntKind.i64.wrap (p0_0+1))+1))))=true then (some (-1)) else ((at? a0 p0_1).bind fun v14002=>(if (!decide (v14002.cell.value=(IntKind.i64.wrap ((IntKind.i64.wrap ((IntKind.i64.wrap (p0_0+1))+1))+1))))=true then (some (-1)) else ((at? a0 p0_1).bind fun v17002=>((D9 v17002.cell.data (IntKind.i64.wrap ((IntKind.i64.wrap ((IntKind.i64.wrap ((IntKind.i64.wrap (p0_0+1))+1))+1))+1))).bind fun v17007=>(if (decide (v17007<0))=true then (some (-1)) else ((at? a0 p0_1).bind fun v20002=>((Fi v20002.cell.aux v17007).bind fun v20007=>(if (decide (v20007<0))=true then (some (-1)) else ((at? a0 p0_1).bind fun v23002=>(if (!decide (v23002.a.machine=v20007))=true then (some (-1)) else ((at? a0 p0_1).bind fun v26002=>(if (!decide (v26002.a.kind=(IntKind.i64.wrap (v20007+1))))=true then (some (-1)) else ((at? a0 p0_1).bind fun v29002=>(if (!decide (v29002.a.index=(IntKind.i64.wrap ((IntKind.i64.wrap (v20007+1))+1))))=true then (some (-1)) else ((at? a0 p0_1).bind fun v32002=>(if (!decide (v32002.b.machine=(IntKind.i64.wrap ((IntKind.i64.wrap ((IntKind.i64.wrap (v20007+1))+1))+1))))=true then (some (-1)) else ((at? a0 p0_1).bind fun v35002=>(if (!decide (v35002.b.kind=(IntKind.i64.wrap ((IntKind.i64.wrap ((IntKind.i64.wrap ((IntKind.i64.wrap (v20007+1))+1))+1))+1))))=true then (some (-1)) else ((at? a0 p0_1).bind fun v38002=>(if (!decide (v38002.b.index=(IntKind.i64.wrap ((IntKind.i64.wrap ((IntKind.i64.wrap ((IntKind.i64.wrap ((IntKind.i64.wrap (v20007+1))+1))+1))+1))+1))))=true then (some (-1)) else (Cp n a0 (IntKind.i64.wrap ((IntKind.i64.wrap ((IntKind.i64.wrap ((IntKind.i64.wrap ((IntKind.i64.wrap ((IntKind.i64.wrap (v20007+1))+1))+1))+1))+1))+1)) (IntKind.i64.wrap (p0_1+1))))))))))))))))))))))))))))) else (some p0_0))
def HQ (a0:List Parcel) (a1:Int):Option (Int):=
 (Cp fuel a0 a1 0)
def CO:Nat→(List (List Parcel))→Int→Int→Option (Int)
 |0,_,_,_=>none
 |n+1,a0,p0_0,p0_1=>(if (decide (p0_1<(a0.length:Int)))=true then ((at? a0 p0_1).bind fun v5002=>((HQ v5002 p0_0).bind fun v5005=>(if (decide (v5005<0))=true then (some (-1)) else (CO n a0 v5005 (IntKind.i64.wrap (p0_1+1)))))) else (some p0_0))
def Gr (a0:List (List Parcel)) (a1:Int):Option (Int):=
 (CO fuel a0 a1 0)
def Cq:Nat→(List (List Int))→Int→Int→Option (Int)
 |0,_,_,_=>none
 |n+1,a0,p0_0,p0_1=>(if (decide (p0_1<(a0.length:Int)))=true then ((at? a0 p0_1).bind fun v5002=>((D9 v5002 p0_0).bind fun v5005=>(if (decide (v5005<0))=true then (some (-1)) else (Cq n a0 v5005 (IntKind.i64.wrap (p0_1+1)))))) else (some p0_0))
def HR (a0:List (List Int)) (a1:Int):Option (Int):=
 (Cq fuel a0 a1 0)
def Iz (a0:Cluster) (a1:Int):Option (Int):=
 ((MI a0.grid a1).bind fun v2003=>(if (decide (v2003<0))=true then (some (-1)) else ((Gr a0.channels v2003).bind fun v5003=>(if (decide (v5003<0))=true then (some (-1)) else ((HR a0.counts v5003).bind fun v8003=>(if (decide (v8003<0))=true then (some (-1)) else ((D9 a0.sent v8003).bind fun v11003=>(if (decide (v11003<0))=true then (some (-1)) else ((D9 a0.got v11003).bind fun v14003=>(if (decide (v14003<0))=true then (some (-1)) else (some v14003)))))))))))
def Dk:Nat→(List Bool)→Int→Int→Option (Int)
 |0,_,_,_=>none
 |n+1,a0,p0_0,p0_1=>(if (decide (p0_1<(a0.length:Int)))=true then ((at? a0 p0_1).bind fun v5002=>(if (!(v5002 == (decide ((Int.tmod p0_0 3)=0))))=true then (some (-1)) else (Dk n a0 (IntKind.i64.wrap (p0_0+1)) (IntKind.i64.wrap (p0_1+1))))) else (some p0_0))
def JC (a0:List Bool) (a1:Int):Option (Int):=
 (Dk fuel a0 a1 0)
end Go.Proofs.YtclmbjbbojdojaaGreat.Ab
