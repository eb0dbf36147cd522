/-
  Data of the program as Lean types; how they lie in memory. Printed by wip/ab/gen.py.
-/
import Derived.Test.YtclmbjbbojdojaaGreatAbY
import Derived.Test.YtclmbjbbojdojaaGreatMod
namespace Go.Proofs.YtclmbjbbojdojaaGreat.Ab
set_option linter.unusedVariables false
set_option linter.unusedSimpArgs false
set_option maxRecDepth 20000
set_option maxHeartbeats 4000000
open Go.RowKit
structure Address where
 machine:Int
 kind:Int
 index:Int
def Address.ds (c:Address):List D:=[.int .i64 c.machine,.int .i64 c.kind,.int .i64 c.index]
theorem Address.ds_eq (c:Address):c.ds=[.int .i64 c.machine,.int .i64 c.kind,.int .i64 c.index] :=rfl
@[go_sem] def Address.avs (c:Address):List AV:=[.int .i64 c.machine,.int .i64 c.kind,.int .i64 c.index]
@[go_sem] def Address.rv (c:Address):List RV:=[.int .i64 c.machine,.int .i64 c.kind,.int .i64 c.index]
@[go_sem] def Address.rvn (c:Address):List RV:=[.int .i64 c.machine,.int .i64 c.kind,.int .i64 c.index]
attribute [go_sem] Address.ds_eq
theorem Address.ds_len (c:Address):c.ds.length=3:=by rw [Address.ds_eq]; rfl
structure ShardCell where
 kind:Int
 level:Int
 value:Int
 data:List Int
 aux:List Address
def ShardCell.ds (c:ShardCell):List D:=[.int .i64 c.kind,.int .i64 c.level,.int .i64 c.value,.sl (List.map AJ c.data),.sl (List.map Address.ds c.aux)]
theorem ShardCell.ds_eq (c:ShardCell):c.ds=[.int .i64 c.kind,.int .i64 c.level,.int .i64 c.value,.sl (List.map AJ c.data),.sl (List.map Address.ds c.aux)] :=rfl
@[go_sem] def ShardCell.avs (c:ShardCell):List AV:=[.int .i64 c.kind,.int .i64 c.level,.int .i64 c.value,.ro (List.map AJ c.data),.ro (List.map Address.ds c.aux)]
@[go_sem] def ShardCell.rv (c:ShardCell):List RV:=[.int .i64 c.kind,.int .i64 c.level,.int .i64 c.value,.ow (some 1) (List.map AJ c.data),.ow (some 3) (List.map Address.ds c.aux)]
@[go_sem] def ShardCell.rvn (c:ShardCell):List RV:=[.int .i64 c.kind,.int .i64 c.level,.int .i64 c.value,.ow none (List.map AJ c.data),.ow none (List.map Address.ds c.aux)]
attribute [go_sem] ShardCell.ds_eq
theorem ShardCell.ds_len (c:ShardCell):c.ds.length=5:=by rw [ShardCell.ds_eq]; rfl
def ShardCell.dz (c:ShardCell):List D:=[.int .i64 c.kind,.int .i64 c.level,.int .i64 c.value,.fz (List.map AJ c.data),.fz (List.map Address.ds c.aux)]
@[go_sem] theorem ShardCell.dz_eq (c:ShardCell):c.dz=[.int .i64 c.kind,.int .i64 c.level,.int .i64 c.value,.fz (List.map AJ c.data),.fz (List.map Address.ds c.aux)] :=rfl
theorem ShardCell.dz_len (c:ShardCell):c.dz.length=5:=rfl
theorem ShardCell.dz_fz (c:ShardCell):fzC c.ds=c.dz:=by rw [ShardCell.ds_eq]; rfl
theorem ShardCell.dz_ng (c:ShardCell):∀d ∈ c.ds,d≠ .gone :=by rw [ShardCell.ds_eq]; exact Hn rfl
@[go_sem] theorem ShardCell.dz_er (l:List ShardCell):erR (List.map ShardCell.dz l)=List.map ShardCell.ds l:=B4 (fun c=>by rw [ShardCell.ds_eq]; simp only [ShardCell.dz,erC,er]) l
structure ShardVar where
 used:Bool
 full:Bool
 held:Address
def ShardVar.ds (c:ShardVar):List D:=[.bool c.used,.bool c.full,.int .i64 c.held.machine,.int .i64 c.held.kind,.int .i64 c.held.index]
theorem ShardVar.ds_eq (c:ShardVar):c.ds=[.bool c.used,.bool c.full,.int .i64 c.held.machine,.int .i64 c.held.kind,.int .i64 c.held.index] :=rfl
@[go_sem] def ShardVar.avs (c:ShardVar):List AV:=[.bool c.used,.bool c.full,.int .i64 c.held.machine,.int .i64 c.held.kind,.int .i64 c.held.index]
@[go_sem] def ShardVar.rv (c:ShardVar):List RV:=[.bool c.used,.bool c.full,.int .i64 c.held.machine,.int .i64 c.held.kind,.int .i64 c.held.index]
@[go_sem] def ShardVar.rvn (c:ShardVar):List RV:=[.bool c.used,.bool c.full,.int .i64 c.held.machine,.int .i64 c.held.kind,.int .i64 c.held.index]
attribute [go_sem] ShardVar.ds_eq
theorem ShardVar.ds_len (c:ShardVar):c.ds.length=5:=by rw [ShardVar.ds_eq]; rfl
structure ShardRedex where
 a:Address
 b:Address
def ShardRedex.ds (c:ShardRedex):List D:=[.int .i64 c.a.machine,.int .i64 c.a.kind,.int .i64 c.a.index,.int .i64 c.b.machine,.int .i64 c.b.kind,.int .i64 c.b.index]
theorem ShardRedex.ds_eq (c:ShardRedex):c.ds=[.int .i64 c.a.machine,.int .i64 c.a.kind,.int .i64 c.a.index,.int .i64 c.b.machine,.int .i64 c.b.kind,.int .i64 c.b.index] :=rfl
@[go_sem] def ShardRedex.avs (c:ShardRedex):List AV:=[.int .i64 c.a.machine,.int .i64 c.a.kind,.int .i64 c.a.index,.int .i64 c.b.machine,.int .i64 c.b.kind,.int .i64 c.b.index]
@[go_sem] def ShardRedex.rv (c:ShardRedex):List RV:=[.int .i64 c.a.machine,.int .i64 c.a.kind,.int .i64 c.a.index,.int .i64 c.b.machine,.int .i64 c.b.kind,.int .i64 c.b.index]
@[go_sem] def ShardRedex.rvn (c:ShardRedex):List RV:=[.int .i64 c.a.machine,.int .i64 c.a.kind,.int .i64 c.a.index,.int .i64 c.b.machine,.int .i64 c.b.kind,.int .i64 c.b.index]
attribute [go_sem] ShardRedex.ds_eq
theorem ShardRedex.ds_len (c:ShardRedex):c.ds.length=6:=by rw [ShardRedex.ds_eq]; rfl
structure Shard where
 cells:List ShardCell
 vars:List ShardVar
 redexes:List ShardRedex
def Shard.ds (c:Shard):List D:=[.sl (List.map ShardCell.ds c.cells),.sl (List.map ShardVar.ds c.vars),.sl (List.map ShardRedex.ds c.redexes)]
theorem Shard.ds_eq (c:Shard):c.ds=[.sl (List.map ShardCell.ds c.cells),.sl (List.map ShardVar.ds c.vars),.sl (List.map ShardRedex.ds c.redexes)] :=rfl
@[go_sem] def Shard.avs (c:Shard):List AV:=[.ro (List.map ShardCell.ds c.cells),.ro (List.map ShardVar.ds c.vars),.ro (List.map ShardRedex.ds c.redexes)]
@[go_sem] def Shard.rv (c:Shard):List RV:=[.ow (some 5) (List.map ShardCell.ds c.cells),.ow (some 5) (List.map ShardVar.ds c.vars),.ow (some 6) (List.map ShardRedex.ds c.redexes)]
@[go_sem] def Shard.rvn (c:Shard):List RV:=[.ow none (List.map ShardCell.ds c.cells),.ow none (List.map ShardVar.ds c.vars),.ow none (List.map ShardRedex.ds c.redexes)]
attribute [go_sem] Shard.ds_eq
theorem Shard.ds_len (c:Shard):c.ds.length=3:=by rw [Shard.ds_eq]; rfl
def Shard.dz (c:Shard):List D:=[.fz (List.map ShardCell.ds c.cells),.fz (List.map ShardVar.ds c.vars),.fz (List.map ShardRedex.ds c.redexes)]
@[go_sem] theorem Shard.dz_eq (c:Shard):c.dz=[.fz (List.map ShardCell.ds c.cells),.fz (List.map ShardVar.ds c.vars),.fz (List.map ShardRedex.ds c.redexes)] :=rfl
theorem Shard.dz_len (c:Shard):c.dz.length=3:=rfl
theorem Shard.dz_fz (c:Shard):fzC c.ds=c.dz:=by rw [Shard.ds_eq]; rfl
theorem Shard.dz_ng (c:Shard):∀d ∈ c.ds,d≠ .gone :=by rw [Shard.ds_eq]; exact Hn rfl
@[go_sem] theorem Shard.dz_er (l:List Shard):erR (List.map Shard.dz l)=List.map Shard.ds l:=B4 (fun c=>by rw [Shard.ds_eq]; simp only [Shard.dz,erC,er]) l
structure Grid where
 shards:List Shard
 root:Address
def Grid.ds (c:Grid):List D:=[.sl (List.map Shard.ds c.shards),.int .i64 c.root.machine,.int .i64 c.root.kind,.int .i64 c.root.index]
theorem Grid.ds_eq (c:Grid):c.ds=[.sl (List.map Shard.ds c.shards),.int .i64 c.root.machine,.int .i64 c.root.kind,.int .i64 c.root.index] :=rfl
@[go_sem] def Grid.avs (c:Grid):List AV:=[.ro (List.map Shard.ds c.shards),.int .i64 c.root.machine,.int .i64 c.root.kind,.int .i64 c.root.index]
@[go_sem] def Grid.rv (c:Grid):List RV:=[.ow (some 3) (List.map Shard.ds c.shards),.int .i64 c.root.machine,.int .i64 c.root.kind,.int .i64 c.root.index]
@[go_sem] def Grid.rvn (c:Grid):List RV:=[.ow none (List.map Shard.ds c.shards),.int .i64 c.root.machine,.int .i64 c.root.kind,.int .i64 c.root.index]
attribute [go_sem] Grid.ds_eq
theorem Grid.ds_len (c:Grid):c.ds.length=4:=by rw [Grid.ds_eq]; rfl
def Grid.dz (c:Grid):List D:=[.fz (List.map Shard.ds c.shards),.int .i64 c.root.machine,.int .i64 c.root.kind,.int .i64 c.root.index]
@[go_sem] theorem Grid.dz_eq (c:Grid):c.dz=[.fz (List.map Shard.ds c.shards),.int .i64 c.root.machine,.int .i64 c.root.kind,.int .i64 c.root.index] :=rfl
theorem Grid.dz_len (c:Grid):c.dz.length=4:=rfl
theorem Grid.dz_fz (c:Grid):fzC c.ds=c.dz:=by rw [Grid.ds_eq]; rfl
theorem Grid.dz_ng (c:Grid):∀d ∈ c.ds,d≠ .gone :=by rw [Grid.ds_eq]; exact Hn rfl
@[go_sem] theorem Grid.dz_er (l:List Grid):erR (List.map Grid.dz l)=List.map Grid.ds l:=B4 (fun c=>by rw [Grid.ds_eq]; simp only [Grid.dz,erC,er]) l
structure Parcel where
 kind:Int
 cell:ShardCell
 a:Address
 b:Address
def Parcel.ds (c:Parcel):List D:=[.int .i64 c.kind,.int .i64 c.cell.kind,.int .i64 c.cell.level,.int .i64 c.cell.value,.sl (List.map AJ c.cell.data),.sl (List.map Address.ds c.cell.aux),.int .i64 c.a.machine,.int .i64 c.a.kind,.int .i64 c.a.index,.int .i64 c.b.machine,.int .i64 c.b.kind,.int .i64 c.b.index]
theorem Parcel.ds_eq (c:Parcel):c.ds=[.int .i64 c.kind,.int .i64 c.cell.kind,.int .i64 c.cell.level,.int .i64 c.cell.value,.sl (List.map AJ c.cell.data),.sl (List.map Address.ds c.cell.aux),.int .i64 c.a.machine,.int .i64 c.a.kind,.int .i64 c.a.index,.int .i64 c.b.machine,.int .i64 c.b.kind,.int .i64 c.b.index] :=rfl
@[go_sem] def Parcel.avs (c:Parcel):List AV:=[.int .i64 c.kind,.int .i64 c.cell.kind,.int .i64 c.cell.level,.int .i64 c.cell.value,.ro (List.map AJ c.cell.data),.ro (List.map Address.ds c.cell.aux),.int .i64 c.a.machine,.int .i64 c.a.kind,.int .i64 c.a.index,.int .i64 c.b.machine,.int .i64 c.b.kind,.int .i64 c.b.index]
@[go_sem] def Parcel.rv (c:Parcel):List RV:=[.int .i64 c.kind,.int .i64 c.cell.kind,.int .i64 c.cell.level,.int .i64 c.cell.value,.ow (some 1) (List.map AJ c.cell.data),.ow (some 3) (List.map Address.ds c.cell.aux),.int .i64 c.a.machine,.int .i64 c.a.kind,.int .i64 c.a.index,.int .i64 c.b.machine,.int .i64 c.b.kind,.int .i64 c.b.index]
@[go_sem] def Parcel.rvn (c:Parcel):List RV:=[.int .i64 c.kind,.int .i64 c.cell.kind,.int .i64 c.cell.level,.int .i64 c.cell.value,.ow none (List.map AJ c.cell.data),.ow none (List.map Address.ds c.cell.aux),.int .i64 c.a.machine,.int .i64 c.a.kind,.int .i64 c.a.index,.int .i64 c.b.machine,.int .i64 c.b.kind,.int .i64 c.b.index]
attribute [go_sem] Parcel.ds_eq
theorem Parcel.ds_len (c:Parcel):c.ds.length=12:=by rw [Parcel.ds_eq]; rfl
def Parcel.dz (c:Parcel):List D:=[.int .i64 c.kind,.int .i64 c.cell.kind,.int .i64 c.cell.level,.int .i64 c.cell.value,.fz (List.map AJ c.cell.data),.fz (List.map Address.ds c.cell.aux),.int .i64 c.a.machine,.int .i64 c.a.kind,.int .i64 c.a.index,.int .i64 c.b.machine,.int .i64 c.b.kind,.int .i64 c.b.index]
@[go_sem] theorem Parcel.dz_eq (c:Parcel):c.dz=[.int .i64 c.kind,.int .i64 c.cell.kind,.int .i64 c.cell.level,.int .i64 c.cell.value,.fz (List.map AJ c.cell.data),.fz (List.map Address.ds c.cell.aux),.int .i64 c.a.machine,.int .i64 c.a.kind,.int .i64 c.a.index,.int .i64 c.b.machine,.int .i64 c.b.kind,.int .i64 c.b.index] :=rfl
theorem Parcel.dz_len (c:Parcel):c.dz.length=12:=rfl
theorem Parcel.dz_fz (c:Parcel):fzC c.ds=c.dz:=by rw [Parcel.ds_eq]; rfl
theorem Parcel.dz_ng (c:Parcel):∀d ∈ c.ds,d≠ .gone :=by rw [Parcel.ds_eq]; exact Hn rfl
@[go_sem] theorem Parcel.dz_er (l:List Parcel):erR (List.map Parcel.dz l)=List.map Parcel.ds l:=B4 (fun c=>by rw [Parcel.ds_eq]; simp only [Parcel.dz,erC,er]) l
structure Cluster where
 grid:Grid
 channels:List (List Parcel)
 counts:List (List Int)
 sent:List Int
 got:List Int
def Cluster.ds (c:Cluster):List D:=[.sl (List.map Shard.ds c.grid.shards),.int .i64 c.grid.root.machine,.int .i64 c.grid.root.kind,.int .i64 c.grid.root.index,.sl (List.map (slD Parcel.ds) c.channels),.sl (List.map (slD AJ) c.counts),.sl (List.map AJ c.sent),.sl (List.map AJ c.got)]
theorem Cluster.ds_eq (c:Cluster):c.ds=[.sl (List.map Shard.ds c.grid.shards),.int .i64 c.grid.root.machine,.int .i64 c.grid.root.kind,.int .i64 c.grid.root.index,.sl (List.map (slD Parcel.ds) c.channels),.sl (List.map (slD AJ) c.counts),.sl (List.map AJ c.sent),.sl (List.map AJ c.got)] :=rfl
@[go_sem] def Cluster.avs (c:Cluster):List AV:=[.ro (List.map Shard.ds c.grid.shards),.int .i64 c.grid.root.machine,.int .i64 c.grid.root.kind,.int .i64 c.grid.root.index,.ro (List.map (slD Parcel.ds) c.channels),.ro (List.map (slD AJ) c.counts),.ro (List.map AJ c.sent),.ro (List.map AJ c.got)]
@[go_sem] def Cluster.rv (c:Cluster):List RV:=[.ow (some 3) (List.map Shard.ds c.grid.shards),.int .i64 c.grid.root.machine,.int .i64 c.grid.root.kind,.int .i64 c.grid.root.index,.ow (some 1) (List.map (slD Parcel.ds) c.channels),.ow (some 1) (List.map (slD AJ) c.counts),.ow (some 1) (List.map AJ c.sent),.ow (some 1) (List.map AJ c.got)]
@[go_sem] def Cluster.rvn (c:Cluster):List RV:=[.ow none (List.map Shard.ds c.grid.shards),.int .i64 c.grid.root.machine,.int .i64 c.grid.root.kind,.int .i64 c.grid.root.index,.ow none (List.map (slD Parcel.ds) c.channels),.ow none (List.map (slD AJ) c.counts),.ow none (List.map AJ c.sent),.ow none (List.map AJ c.got)]
attribute [go_sem] Cluster.ds_eq
theorem Cluster.ds_len (c:Cluster):c.ds.length=8:=by rw [Cluster.ds_eq]; rfl
def Cluster.dz (c:Cluster):List D:=[.fz (List.map Shard.ds c.grid.shards),.int .i64 c.grid.root.machine,.int .i64 c.grid.root.kind,.int .i64 c.grid.root.index,.fz (List.map (slD Parcel.ds) c.channels),.fz (List.map (slD AJ) c.counts),.fz (List.map AJ c.sent),.fz (List.map AJ c.got)]
@[go_sem] theorem Cluster.dz_eq (c:Cluster):c.dz=[.fz (List.map Shard.ds c.grid.shards),.int .i64 c.grid.root.machine,.int .i64 c.grid.root.kind,.int .i64 c.grid.root.index,.fz (List.map (slD Parcel.ds) c.channels),.fz (List.map (slD AJ) c.counts),.fz (List.map AJ c.sent),.fz (List.map AJ c.got)] :=rfl
theorem Cluster.dz_len (c:Cluster):c.dz.length=8:=rfl
theorem Cluster.dz_fz (c:Cluster):fzC c.ds=c.dz:=by rw [Cluster.ds_eq]; rfl
theorem Cluster.dz_ng (c:Cluster):∀d ∈ c.ds,d≠ .gone :=by rw [Cluster.ds_eq]; exact Hn rfl
@[go_sem] theorem Cluster.dz_er (l:List Cluster):erR (List.map Cluster.dz l)=List.map Cluster.ds l:=B4 (fun c=>by rw [Cluster.ds_eq]; simp only [Cluster.dz,erC,er]) l
structure Shot where
 taken:List Bool
 shards:List Shard
 counts:List (List Int)
 recording:List Bool
 saved:List (List Parcel)
def Shot.ds (c:Shot):List D:=[.sl (List.map Ac c.taken),.sl (List.map Shard.ds c.shards),.sl (List.map (slD AJ) c.counts),.sl (List.map Ac c.recording),.sl (List.map (slD Parcel.ds) c.saved)]
theorem Shot.ds_eq (c:Shot):c.ds=[.sl (List.map Ac c.taken),.sl (List.map Shard.ds c.shards),.sl (List.map (slD AJ) c.counts),.sl (List.map Ac c.recording),.sl (List.map (slD Parcel.ds) c.saved)] :=rfl
@[go_sem] def Shot.avs (c:Shot):List AV:=[.ro (List.map Ac c.taken),.ro (List.map Shard.ds c.shards),.ro (List.map (slD AJ) c.counts),.ro (List.map Ac c.recording),.ro (List.map (slD Parcel.ds) c.saved)]
@[go_sem] def Shot.rv (c:Shot):List RV:=[.ow (some 1) (List.map Ac c.taken),.ow (some 3) (List.map Shard.ds c.shards),.ow (some 1) (List.map (slD AJ) c.counts),.ow (some 1) (List.map Ac c.recording),.ow (some 1) (List.map (slD Parcel.ds) c.saved)]
@[go_sem] def Shot.rvn (c:Shot):List RV:=[.ow none (List.map Ac c.taken),.ow none (List.map Shard.ds c.shards),.ow none (List.map (slD AJ) c.counts),.ow none (List.map Ac c.recording),.ow none (List.map (slD Parcel.ds) c.saved)]
attribute [go_sem] Shot.ds_eq
theorem Shot.ds_len (c:Shot):c.ds.length=5:=by rw [Shot.ds_eq]; rfl
def Shot.dz (c:Shot):List D:=[.fz (List.map Ac c.taken),.fz (List.map Shard.ds c.shards),.fz (List.map (slD AJ) c.counts),.fz (List.map Ac c.recording),.fz (List.map (slD Parcel.ds) c.saved)]
@[go_sem] theorem Shot.dz_eq (c:Shot):c.dz=[.fz (List.map Ac c.taken),.fz (List.map Shard.ds c.shards),.fz (List.map (slD AJ) c.counts),.fz (List.map Ac c.recording),.fz (List.map (slD Parcel.ds) c.saved)] :=rfl
theorem Shot.dz_len (c:Shot):c.dz.length=5:=rfl
theorem Shot.dz_fz (c:Shot):fzC c.ds=c.dz:=by rw [Shot.ds_eq]; rfl
theorem Shot.dz_ng (c:Shot):∀d ∈ c.ds,d≠ .gone :=by rw [Shot.ds_eq]; exact Hn rfl
@[go_sem] theorem Shot.dz_er (l:List Shot):erR (List.map Shot.dz l)=List.map Shot.ds l:=B4 (fun c=>by rw [Shot.ds_eq]; simp only [Shot.dz,erC,er]) l
structure Watched where
 cluster:Cluster
 shot:Shot
def Watched.ds (c:Watched):List D:=[.sl (List.map Shard.ds c.cluster.grid.shards),.int .i64 c.cluster.grid.root.machine,.int .i64 c.cluster.grid.root.kind,.int .i64 c.cluster.grid.root.index,.sl (List.map (slD Parcel.ds) c.cluster.channels),.sl (List.map (slD AJ) c.cluster.counts),.sl (List.map AJ c.cluster.sent),.sl (List.map AJ c.cluster.got),.sl (List.map Ac c.shot.taken),.sl (List.map Shard.ds c.shot.shards),.sl (List.map (slD AJ) c.shot.counts),.sl (List.map Ac c.shot.recording),.sl (List.map (slD Parcel.ds) c.shot.saved)]
theorem Watched.ds_eq (c:Watched):c.ds=[.sl (List.map Shard.ds c.cluster.grid.shards),.int .i64 c.cluster.grid.root.machine,.int .i64 c.cluster.grid.root.kind,.int .i64 c.cluster.grid.root.index,.sl (List.map (slD Parcel.ds) c.cluster.channels),.sl (List.map (slD AJ) c.cluster.counts),.sl (List.map AJ c.cluster.sent),.sl (List.map AJ c.cluster.got),.sl (List.map Ac c.shot.taken),.sl (List.map Shard.ds c.shot.shards),.sl (List.map (slD AJ) c.shot.counts),.sl (List.map Ac c.shot.recording),.sl (List.map (slD Parcel.ds) c.shot.saved)] :=rfl
@[go_sem] def Watched.avs (c:Watched):List AV:=[.ro (List.map Shard.ds c.cluster.grid.shards),.int .i64 c.cluster.grid.root.machine,.int .i64 c.cluster.grid.root.kind,.int .i64 c.cluster.grid.root.index,.ro (List.map (slD Parcel.ds) c.cluster.channels),.ro (List.map (slD AJ) c.cluster.counts),.ro (List.map AJ c.cluster.sent),.ro (List.map AJ c.cluster.got),.ro (List.map Ac c.shot.taken),.ro (List.map Shard.ds c.shot.shards),.ro (List.map (slD AJ) c.shot.counts),.ro (List.map Ac c.shot.recording),.ro (List.map (slD Parcel.ds) c.shot.saved)]
@[go_sem] def Watched.rv (c:Watched):List RV:=[.ow (some 3) (List.map Shard.ds c.cluster.grid.shards),.int .i64 c.cluster.grid.root.machine,.int .i64 c.cluster.grid.root.kind,.int .i64 c.cluster.grid.root.index,.ow (some 1) (List.map (slD Parcel.ds) c.cluster.channels),.ow (some 1) (List.map (slD AJ) c.cluster.counts),.ow (some 1) (List.map AJ c.cluster.sent),.ow (some 1) (List.map AJ c.cluster.got),.ow (some 1) (List.map Ac c.shot.taken),.ow (some 3) (List.map Shard.ds c.shot.shards),.ow (some 1) (List.map (slD AJ) c.shot.counts),.ow (some 1) (List.map Ac c.shot.recording),.ow (some 1) (List.map (slD Parcel.ds) c.shot.saved)]
@[go_sem] def Watched.rvn (c:Watched):List RV:=[.ow none (List.map Shard.ds c.cluster.grid.shards),.int .i64 c.cluster.grid.root.machine,.int .i64 c.cluster.grid.root.kind,.int .i64 c.cluster.grid.root.index,.ow none (List.map (slD Parcel.ds) c.cluster.channels),.ow none (List.map (slD AJ) c.cluster.counts),.ow none (List.map AJ c.cluster.sent),.ow none (List.map AJ c.cluster.got),.ow none (List.map Ac c.shot.taken),.ow none (List.map Shard.ds c.shot.shards),.ow none (List.map (slD AJ) c.shot.counts),.ow none (List.map Ac c.shot.recording),.ow none (List.map (slD Parcel.ds) c.shot.saved)]
attribute [go_sem] Watched.ds_eq
theorem Watched.ds_len (c:Watched):c.ds.length=13:=by rw [Watched.ds_eq]; rfl
def Watched.dz (c:Watched):List D:=[.fz (List.map Shard.ds c.cluster.grid.shards),.int .i64 c.cluster.grid.root.machine,.int .i64 c.cluster.grid.root.kind,.int .i64 c.cluster.grid.root.index,.fz (List.map (slD Parcel.ds) c.cluster.channels),.fz (List.map (slD AJ) c.cluster.counts),.fz (List.map AJ c.cluster.sent),.fz (List.map AJ c.cluster.got),.fz (List.map Ac c.shot.taken),.fz (List.map Shard.ds c.shot.shards),.fz (List.map (slD AJ) c.shot.counts),.fz (List.map Ac c.shot.recording),.fz (List.map (slD Parcel.ds) c.shot.saved)]
@[go_sem] theorem Watched.dz_eq (c:Watched):c.dz=[.fz (List.map Shard.ds c.cluster.grid.shards),.int .i64 c.cluster.grid.root.machine,.int .i64 c.cluster.grid.root.kind,.int .i64 c.cluster.grid.root.index,.fz (List.map (slD Parcel.ds) c.cluster.channels),.fz (List.map (slD AJ) c.cluster.counts),.fz (List.map AJ c.cluster.sent),.fz (List.map AJ c.cluster.got),.fz (List.map Ac c.shot.taken),.fz (List.map Shard.ds c.shot.shards),.fz (List.map (slD AJ) c.shot.counts),.fz (List.map Ac c.shot.recording),.fz (List.map (slD Parcel.ds) c.shot.saved)] :=rfl
theorem Watched.dz_len (c:Watched):c.dz.length=13:=rfl
theorem Watched.dz_fz (c:Watched):fzC c.ds=c.dz:=by rw [Watched.ds_eq]; rfl
theorem Watched.dz_ng (c:Watched):∀d ∈ c.ds,d≠ .gone :=by rw [Watched.ds_eq]; exact Hn rfl
@[go_sem] theorem Watched.dz_er (l:List Watched):erR (List.map Watched.dz l)=List.map Watched.ds l:=B4 (fun c=>by rw [Watched.ds_eq]; simp only [Watched.dz,erC,er]) l
structure Service where
 watched:Watched
 good:Cluster
 shots:Int
 crashes:Int
def Service.ds (c:Service):List D:=[.sl (List.map Shard.ds c.watched.cluster.grid.shards),.int .i64 c.watched.cluster.grid.root.machine,.int .i64 c.watched.cluster.grid.root.kind,.int .i64 c.watched.cluster.grid.root.index,.sl (List.map (slD Parcel.ds) c.watched.cluster.channels),.sl (List.map (slD AJ) c.watched.cluster.counts),.sl (List.map AJ c.watched.cluster.sent),.sl (List.map AJ c.watched.cluster.got),.sl (List.map Ac c.watched.shot.taken),.sl (List.map Shard.ds c.watched.shot.shards),.sl (List.map (slD AJ) c.watched.shot.counts),.sl (List.map Ac c.watched.shot.recording),.sl (List.map (slD Parcel.ds) c.watched.shot.saved),.sl (List.map Shard.ds c.good.grid.shards),.int .i64 c.good.grid.root.machine,.int .i64 c.good.grid.root.kind,.int .i64 c.good.grid.root.index,.sl (List.map (slD Parcel.ds) c.good.channels),.sl (List.map (slD AJ) c.good.counts),.sl (List.map AJ c.good.sent),.sl (List.map AJ c.good.got),.int .i64 c.shots,.int .i64 c.crashes]
theorem Service.ds_eq (c:Service):c.ds=[.sl (List.map Shard.ds c.watched.cluster.grid.shards),.int .i64 c.watched.cluster.grid.root.machine,.int .i64 c.watched.cluster.grid.root.kind,.int .i64 c.watched.cluster.grid.root.index,.sl (List.map (slD Parcel.ds) c.watched.cluster.channels),.sl (List.map (slD AJ) c.watched.cluster.counts),.sl (List.map AJ c.watched.cluster.sent),.sl (List.map AJ c.watched.cluster.got),.sl (List.map Ac c.watched.shot.taken),.sl (List.map Shard.ds c.watched.shot.shards),.sl (List.map (slD AJ) c.watched.shot.counts),.sl (List.map Ac c.watched.shot.recording),.sl (List.map (slD Parcel.ds) c.watched.shot.saved),.sl (List.map Shard.ds c.good.grid.shards),.int .i64 c.good.grid.root.machine,.int .i64 c.good.grid.root.kind,.int .i64 c.good.grid.root.index,.sl (List.map (slD Parcel.ds) c.good.channels),.sl (List.map (slD AJ) c.good.counts),.sl (List.map AJ c.good.sent),.sl (List.map AJ c.good.got),.int .i64 c.shots,.int .i64 c.crashes] :=rfl
@[go_sem] def Service.avs (c:Service):List AV:=[.ro (List.map Shard.ds c.watched.cluster.grid.shards),.int .i64 c.watched.cluster.grid.root.machine,.int .i64 c.watched.cluster.grid.root.kind,.int .i64 c.watched.cluster.grid.root.index,.ro (List.map (slD Parcel.ds) c.watched.cluster.channels),.ro (List.map (slD AJ) c.watched.cluster.counts),.ro (List.map AJ c.watched.cluster.sent),.ro (List.map AJ c.watched.cluster.got),.ro (List.map Ac c.watched.shot.taken),.ro (List.map Shard.ds c.watched.shot.shards),.ro (List.map (slD AJ) c.watched.shot.counts),.ro (List.map Ac c.watched.shot.recording),.ro (List.map (slD Parcel.ds) c.watched.shot.saved),.ro (List.map Shard.ds c.good.grid.shards),.int .i64 c.good.grid.root.machine,.int .i64 c.good.grid.root.kind,.int .i64 c.good.grid.root.index,.ro (List.map (slD Parcel.ds) c.good.channels),.ro (List.map (slD AJ) c.good.counts),.ro (List.map AJ c.good.sent),.ro (List.map AJ c.good.got),.int .i64 c.shots,.int .i64 c.crashes]
@[go_sem] def Service.rv (c:Service):List RV:=[.ow (some 3) (List.map Shard.ds c.watched.cluster.grid.shards),.int .i64 c.watched.cluster.grid.root.machine,.int .i64 c.watched.cluster.grid.root.kind,.int .i64 c.watched.cluster.grid.root.index,.ow (some 1) (List.map (slD Parcel.ds) c.watched.cluster.channels),.ow (some 1) (List.map (slD AJ) c.watched.cluster.counts),.ow (some 1) (List.map AJ c.watched.cluster.sent),.ow (some 1) (List.map AJ c.watched.cluster.got),.ow (some 1) (List.map Ac c.watched.shot.taken),.ow (some 3) (List.map Shard.ds c.watched.shot.shards),.ow (some 1) (List.map (slD AJ) c.watched.shot.counts),.ow (some 1) (List.map Ac c.watched.shot.recording),.ow (some 1) (List.map (slD Parcel.ds) c.watched.shot.saved),.ow (some 3) (List.map Shard.ds c.good.grid.shards),.int .i64 c.good.grid.root.machine,.int .i64 c.good.grid.root.kind,.int .i64 c.good.grid.root.index,.ow (some 1) (List.map (slD Parcel.ds) c.good.channels),.ow (some 1) (List.map (slD AJ) c.good.counts),.ow (some 1) (List.map AJ c.good.sent),.ow (some 1) (List.map AJ c.good.got),.int .i64 c.shots,.int .i64 c.crashes]
@[go_sem] def Service.rvn (c:Service):List RV:=[.ow none (List.map Shard.ds c.watched.cluster.grid.shards),.int .i64 c.watched.cluster.grid.root.machine,.int .i64 c.watched.cluster.grid.root.kind,.int .i64 c.watched.cluster.grid.root.index,.ow none (List.map (slD Parcel.ds) c.watched.cluster.channels),.ow none (List.map (slD AJ) c.watched.cluster.counts),.ow none (List.map AJ c.watched.cluster.sent),.ow none (List.map AJ c.watched.cluster.got),.ow none (List.map Ac c.watched.shot.taken),.ow none (List.map Shard.ds c.watched.shot.shards),.ow none (List.map (slD AJ) c.watched.shot.counts),.ow none (List.map Ac c.watched.shot.recording),.ow none (List.map (slD Parcel.ds) c.watched.shot.saved),.ow none (List.map Shard.ds c.good.grid.shards),.int .i64 c.good.grid.root.machine,.int .i64 c.good.grid.root.kind,.int .i64 c.good.grid.root.index,.ow none (List.map (slD Parcel.ds) c.good.channels),.ow none (List.map (slD AJ) c.good.counts),.ow none (List.map AJ c.good.sent),.ow none (List.map AJ c.good.got),.int .i64 c.shots,.int .i64 c.crashes]
attribute [go_sem] Service.ds_eq
theorem Service.ds_len (c:Service):c.ds.length=23:=by rw [Service.ds_eq]; rfl
def Service.dz (c:Service):List D:=[.fz (List.map Shard.ds c.watched.cluster.grid.shards),.int .i64 c.watched.cluster.grid.root.machine,.int .i64 c.watched.cluster.grid.root.kind,.int .i64 c.watched.cluster.grid.root.index,.fz (List.map (slD Parcel.ds) c.watched.cluster.channels),.fz (List.map (slD AJ) c.watched.cluster.counts),.fz (List.map AJ c.watched.cluster.sent),.fz (List.map AJ c.watched.cluster.got),.fz (List.map Ac c.watched.shot.taken),.fz (List.map Shard.ds c.watched.shot.shards),.fz (List.map (slD AJ) c.watched.shot.counts),.fz (List.map Ac c.watched.shot.recording),.fz (List.map (slD Parcel.ds) c.watched.shot.saved),.fz (List.map Shard.ds c.good.grid.shards),.int .i64 c.good.grid.root.machine,.int .i64 c.good.grid.root.kind,.int .i64 c.good.grid.root.index,.fz (List.map (slD Parcel.ds) c.good.channels),.fz (List.map (slD AJ) c.good.counts),.fz (List.map AJ c.good.sent),.fz (List.map AJ c.good.got),.int .i64 c.shots,.int .i64 c.crashes]
@[go_sem] theorem Service.dz_eq (c:Service):c.dz=[.fz (List.map Shard.ds c.watched.cluster.grid.shards),.int .i64 c.watched.cluster.grid.root.machine,.int .i64 c.watched.cluster.grid.root.kind,.int .i64 c.watched.cluster.grid.root.index,.fz (List.map (slD Parcel.ds) c.watched.cluster.channels),.fz (List.map (slD AJ) c.watched.cluster.counts),.fz (List.map AJ c.watched.cluster.sent),.fz (List.map AJ c.watched.cluster.got),.fz (List.map Ac c.watched.shot.taken),.fz (List.map Shard.ds c.watched.shot.shards),.fz (List.map (slD AJ) c.watched.shot.counts),.fz (List.map Ac c.watched.shot.recording),.fz (List.map (slD Parcel.ds) c.watched.shot.saved),.fz (List.map Shard.ds c.good.grid.shards),.int .i64 c.good.grid.root.machine,.int .i64 c.good.grid.root.kind,.int .i64 c.good.grid.root.index,.fz (List.map (slD Parcel.ds) c.good.channels),.fz (List.map (slD AJ) c.good.counts),.fz (List.map AJ c.good.sent),.fz (List.map AJ c.good.got),.int .i64 c.shots,.int .i64 c.crashes] :=rfl
theorem Service.dz_len (c:Service):c.dz.length=23:=rfl
theorem Service.dz_fz (c:Service):fzC c.ds=c.dz:=by rw [Service.ds_eq]; rfl
theorem Service.dz_ng (c:Service):∀d ∈ c.ds,d≠ .gone :=by rw [Service.ds_eq]; exact Hn rfl
@[go_sem] theorem Service.dz_er (l:List Service):erR (List.map Service.dz l)=List.map Service.ds l:=B4 (fun c=>by rw [Service.ds_eq]; simp only [Service.dz,erC,er]) l
@[go_sem] theorem Address.ds_er (l:List Address):erR (List.map Address.ds l)=List.map Address.ds l:=B4 (fun c=>by rw [Address.ds_eq]; simp only [erC,er,go_sem]) l
@[go_sem] theorem Address.ds_dn (l:List Address):dnR (List.map Address.ds l)=List.map Address.ds l:=Ga (fun c=>by rw [Address.ds_eq]; simp only [dnC,dn,go_sem]) l
@[go_sem] theorem ShardCell.ds_er (l:List ShardCell):erR (List.map ShardCell.ds l)=List.map ShardCell.ds l:=B4 (fun c=>by rw [ShardCell.ds_eq]; simp only [erC,er,go_sem]) l
@[go_sem] theorem ShardCell.ds_dn (l:List ShardCell):dnR (List.map ShardCell.ds l)=List.map ShardCell.ds l:=Ga (fun c=>by rw [ShardCell.ds_eq]; simp only [dnC,dn,go_sem]) l
@[go_sem] theorem ShardVar.ds_er (l:List ShardVar):erR (List.map ShardVar.ds l)=List.map ShardVar.ds l:=B4 (fun c=>by rw [ShardVar.ds_eq]; simp only [erC,er,go_sem]) l
@[go_sem] theorem ShardVar.ds_dn (l:List ShardVar):dnR (List.map ShardVar.ds l)=List.map ShardVar.ds l:=Ga (fun c=>by rw [ShardVar.ds_eq]; simp only [dnC,dn,go_sem]) l
@[go_sem] theorem ShardRedex.ds_er (l:List ShardRedex):erR (List.map ShardRedex.ds l)=List.map ShardRedex.ds l:=B4 (fun c=>by rw [ShardRedex.ds_eq]; simp only [erC,er,go_sem]) l
@[go_sem] theorem ShardRedex.ds_dn (l:List ShardRedex):dnR (List.map ShardRedex.ds l)=List.map ShardRedex.ds l:=Ga (fun c=>by rw [ShardRedex.ds_eq]; simp only [dnC,dn,go_sem]) l
def Shard.dn (c:Shard):List D:=[slN ShardCell.ds c.cells,slN ShardVar.ds c.vars,slN ShardRedex.ds c.redexes]
@[go_sem] theorem Shard.dn_eq (c:Shard):c.dn=[slN ShardCell.ds c.cells,slN ShardVar.ds c.vars,slN ShardRedex.ds c.redexes] :=rfl
theorem Shard.dn_len (c:Shard):c.dn.length=3:=rfl
@[go_sem] theorem Shard.dn_er (l:List Shard):erR (List.map Shard.dn l)=List.map Shard.ds l:=B4 (fun c=>by rw [Shard.ds_eq]; simp only [Shard.dn,erC,er,bh,go_sem]) l
@[go_sem] theorem Shard.dn_dn (l:List Shard):dnR (List.map Shard.dn l)=List.map Shard.ds l:=Ga (fun c=>by rw [Shard.ds_eq]; simp only [Shard.dn,dnC,dn,bi,go_sem]) l
end Go.Proofs.YtclmbjbbojdojaaGreat.Ab
namespace Go.Proofs.YtclmbjbbojdojaaGreat.Ab
set_option linter.unusedVariables false
set_option linter.unusedSimpArgs false
set_option maxRecDepth 20000
set_option maxHeartbeats 4000000
open Go.RowKit
def CP (a0:Address) (a1:Address):Option (Bool):=
 (if (!decide (a0.machine=a1.machine))=true then (some false) else (if (!decide (a0.kind=a1.kind))=true then (some false) else (if (!decide (a0.index=a1.index))=true then (some false) else (some true))))
def Cv:Nat→(List Address)→(List Address)→Int→Option (Bool)
 |0,_,_,_=>none
 |n+1,a0,a1,p0_0=>(if (decide (p0_0<((List.length a0:Nat):Int)))=true then (Option.bind (at? a0 p0_0) fun v7002=>(Option.bind (at? a1 p0_0) fun v7006=>(Option.bind (CP v7002 v7006) fun v7008=>(if (!v7008)=true then (some false) else (Cv n a0 a1 (IntKind.i64.wrap (p0_0+1))))))) else (some true))
def GB (a0:List Address) (a1:List Address):Option (Bool):=
 (if (!decide (((List.length a0:Nat):Int)=((List.length a1:Nat):Int)))=true then (some false) else (Cv fuel a0 a1 0))
def Dt (a0:ShardCell) (a1:ShardCell):Option (Bool):=
 (if (!decide (a0.kind=a1.kind))=true then (some false) else (if (!decide (a0.level=a1.level))=true then (some false) else (if (!decide (a0.value=a1.value))=true then (some false) else (Option.bind (Cs a0.data a1.data) fun v8004=>(if (!v8004)=true then (some false) else (Option.bind (GB a0.aux a1.aux) fun v10004=>(if (!v10004)=true then (some false) else (some true))))))))
def CF:Nat→(List ShardCell)→(List ShardCell)→Int→Option (Bool)
 |0,_,_,_=>none
 |n+1,a0,a1,p0_0=>(if (decide (p0_0<((List.length a0:Nat):Int)))=true then (Option.bind (at? a0 p0_0) fun v7002=>(Option.bind (at? a1 p0_0) fun v7006=>(Option.bind (Dt v7002 v7006) fun v7008=>(if (!v7008)=true then (some false) else (CF n a0 a1 (IntKind.i64.wrap (p0_0+1))))))) else (some true))
def E0 (a0:List ShardCell) (a1:List ShardCell):Option (Bool):=
 (if (!decide (((List.length a0:Nat):Int)=((List.length a1:Nat):Int)))=true then (some false) else (CF fuel a0 a1 0))
def FC (a0:ShardVar) (a1:ShardVar):Option (Bool):=
 (if (!(a0.used == a1.used))=true then (some false) else (if (!(a0.full == a1.full))=true then (some false) else (Option.bind (CP a0.held a1.held) fun v6004=>(if (!v6004)=true then (some false) else (some true)))))
def CX:Nat→(List ShardVar)→(List ShardVar)→Int→Option (Bool)
 |0,_,_,_=>none
 |n+1,a0,a1,p0_0=>(if (decide (p0_0<((List.length a0:Nat):Int)))=true then (Option.bind (at? a0 p0_0) fun v7002=>(Option.bind (at? a1 p0_0) fun v7006=>(Option.bind (FC v7002 v7006) fun v7008=>(if (!v7008)=true then (some false) else (CX n a0 a1 (IntKind.i64.wrap (p0_0+1))))))) else (some true))
def FQ (a0:List ShardVar) (a1:List ShardVar):Option (Bool):=
 (if (!decide (((List.length a0:Nat):Int)=((List.length a1:Nat):Int)))=true then (some false) else (CX fuel a0 a1 0))
def D6 (a0:ShardRedex) (a1:ShardRedex):Option (Bool):=
 (Option.bind (CP a0.a a1.a) fun v2004=>(if (!v2004)=true then (some false) else (Option.bind (CP a0.b a1.b) fun v4004=>(if (!v4004)=true then (some false) else (some true)))))
def Bv:Nat→(List ShardRedex)→(List ShardRedex)→Int→Option (Bool)
 |0,_,_,_=>none
 |n+1,a0,a1,p0_0=>(if (decide (p0_0<((List.length a0:Nat):Int)))=true then (Option.bind (at? a0 p0_0) fun v7002=>(Option.bind (at? a1 p0_0) fun v7006=>(Option.bind (D6 v7002 v7006) fun v7008=>(if (!v7008)=true then (some false) else (Bv n a0 a1 (IntKind.i64.wrap (p0_0+1))))))) else (some true))
def EZ (a0:List ShardRedex) (a1:List ShardRedex):Option (Bool):=
 (if (!decide (((List.length a0:Nat):Int)=((List.length a1:Nat):Int)))=true then (some false) else (Bv fuel a0 a1 0))
def HY (a0:Shard) (a1:Shard):Option (Bool):=
 (Option.bind (E0 a0.cells a1.cells) fun v2004=>(if (!v2004)=true then (some false) else (Option.bind (FQ a0.vars a1.vars) fun v4004=>(if (!v4004)=true then (some false) else (Option.bind (EZ a0.redexes a1.redexes) fun v6004=>(if (!v6004)=true then (some false) else (some true)))))))
def Du:Nat→(List Shard)→(List Shard)→Int→Option (Bool)
 |0,_,_,_=>none
 |n+1,a0,a1,p0_0=>(if (decide (p0_0<((List.length a0:Nat):Int)))=true then (Option.bind (at? a0 p0_0) fun v7002=>(Option.bind (at? a1 p0_0) fun v7006=>(Option.bind (HY v7002 v7006) fun v7008=>(if (!v7008)=true then (some false) else (Du n a0 a1 (IntKind.i64.wrap (p0_0+1))))))) else (some true))
def GT (a0:List Shard) (a1:List Shard):Option (Bool):=
 (if (!decide (((List.length a0:Nat):Int)=((List.length a1:Nat):Int)))=true then (some false) else (Du fuel a0 a1 0))
def KW (a0:Grid) (a1:Grid):Option (Bool):=
 (Option.bind (GT a0.shards a1.shards) fun v2004=>(if (!v2004)=true then (some false) else (Option.bind (CP a0.root a1.root) fun v4004=>(if (!v4004)=true then (some false) else (some true)))))
def GU (a0:Parcel) (a1:Parcel):Option (Bool):=
 (if (!decide (a0.kind=a1.kind))=true then (some false) else (Option.bind (Dt a0.cell a1.cell) fun v4004=>(if (!v4004)=true then (some false) else (Option.bind (CP a0.a a1.a) fun v6004=>(if (!v6004)=true then (some false) else (Option.bind (CP a0.b a1.b) fun v8004=>(if (!v8004)=true then (some false) else (some true))))))))
def DO:Nat→(List Parcel)→(List Parcel)→Int→Option (Bool)
 |0,_,_,_=>none
 |n+1,a0,a1,p0_0=>(if (decide (p0_0<((List.length a0:Nat):Int)))=true then (Option.bind (at? a0 p0_0) fun v7002=>(Option.bind (at? a1 p0_0) fun v7006=>(Option.bind (GU v7002 v7006) fun v7008=>(if (!v7008)=true then (some false) else (DO n a0 a1 (IntKind.i64.wrap (p0_0+1))))))) else (some true))
def Fs (a0:List Parcel) (a1:List Parcel):Option (Bool):=
 (if (!decide (((List.length a0:Nat):Int)=((List.length a1:Nat):Int)))=true then (some false) else (DO fuel a0 a1 0))
def Cw:Nat→(List (List Parcel))→(List (List Parcel))→Int→Option (Bool)
 |0,_,_,_=>none
 |n+1,a0,a1,p0_0=>(if (decide (p0_0<((List.length a0:Nat):Int)))=true then (Option.bind (at? a0 p0_0) fun v7002=>(Option.bind (at? a1 p0_0) fun v7006=>(Option.bind (Fs v7002 v7006) fun v7008=>(if (!v7008)=true then (some false) else (Cw n a0 a1 (IntKind.i64.wrap (p0_0+1))))))) else (some true))
def FD (a0:List (List Parcel)) (a1:List (List Parcel)):Option (Bool):=
 (if (!decide (((List.length a0:Nat):Int)=((List.length a1:Nat):Int)))=true then (some false) else (Cw fuel a0 a1 0))
def DP:Nat→(List (List Int))→(List (List Int))→Int→Option (Bool)
 |0,_,_,_=>none
 |n+1,a0,a1,p0_0=>(if (decide (p0_0<((List.length a0:Nat):Int)))=true then (Option.bind (at? a0 p0_0) fun v7002=>(Option.bind (at? a1 p0_0) fun v7006=>(Option.bind (Cs v7002 v7006) fun v7008=>(if (!v7008)=true then (some false) else (DP n a0 a1 (IntKind.i64.wrap (p0_0+1))))))) else (some true))
def Ft (a0:List (List Int)) (a1:List (List Int)):Option (Bool):=
 (if (!decide (((List.length a0:Nat):Int)=((List.length a1:Nat):Int)))=true then (some false) else (DP fuel a0 a1 0))
def Fu (a0:Cluster) (a1:Cluster):Option (Bool):=
 (Option.bind (KW a0.grid a1.grid) fun v2004=>(if (!v2004)=true then (some false) else (Option.bind (FD a0.channels a1.channels) fun v4004=>(if (!v4004)=true then (some false) else (Option.bind (Ft a0.counts a1.counts) fun v6004=>(if (!v6004)=true then (some false) else (Option.bind (Cs a0.sent a1.sent) fun v8004=>(if (!v8004)=true then (some false) else (Option.bind (Cs a0.got a1.got) fun v10004=>(if (!v10004)=true then (some false) else (some true)))))))))))
def EU:Nat→(List Bool)→(List Bool)→Int→Option (Bool)
 |0,_,_,_=>none
 |n+1,a0,a1,p0_0=>(if (decide (p0_0<((List.length a0:Nat):Int)))=true then (Option.bind (at? a0 p0_0) fun v7002=>(Option.bind (at? a1 p0_0) fun v7006=>(if (!(v7002 == v7006))=true then (some false) else (EU n a0 a1 (IntKind.i64.wrap (p0_0+1)))))) else (some true))
def HZ (a0:List Bool) (a1:List Bool):Option (Bool):=
 (if (!decide (((List.length a0:Nat):Int)=((List.length a1:Nat):Int)))=true then (some false) else (EU fuel a0 a1 0))
def KX (a0:Shot) (a1:Shot):Option (Bool):=
 (Option.bind (HZ a0.taken a1.taken) fun v2004=>(if (!v2004)=true then (some false) else (Option.bind (GT a0.shards a1.shards) fun v4004=>(if (!v4004)=true then (some false) else (Option.bind (Ft a0.counts a1.counts) fun v6004=>(if (!v6004)=true then (some false) else (Option.bind (HZ a0.recording a1.recording) fun v8004=>(if (!v8004)=true then (some false) else (Option.bind (FD a0.saved a1.saved) fun v10004=>(if (!v10004)=true then (some false) else (some true)))))))))))
def Gs (a0:Watched) (a1:Watched):Option (Bool):=
 (Option.bind (Fu a0.cluster a1.cluster) fun v2004=>(if (!v2004)=true then (some false) else (Option.bind (KX a0.shot a1.shot) fun v4004=>(if (!v4004)=true then (some false) else (some true)))))
def EH (a0:Service) (a1:Service):Option (Bool):=
 (Option.bind (Gs a0.watched a1.watched) fun v2004=>(if (!v2004)=true then (some false) else (Option.bind (Fu a0.good a1.good) fun v4004=>(if (!v4004)=true then (some false) else (if (!decide (a0.shots=a1.shots))=true then (some false) else (if (!decide (a0.crashes=a1.crashes))=true then (some false) else (some true)))))))
def Bc:Nat→(List Address)→Int→Int→Option (Int × (List Address))
 |0,_,_,_=>none
 |n+1,p0_0,p0_1,p0_2=>(if (decide (p0_2<((List.length p0_0:Nat):Int)))=true then (Option.bind (at? p0_0 p0_2) fun v5003=>(Option.bind (Ah p0_0 p0_2 (⟨p0_1,v5003.kind,v5003.index⟩:Address)) fun v5005_22=>(Option.bind (at? v5005_22 p0_2) fun v7003=>(Option.bind (Ah v5005_22 p0_2 (⟨v7003.machine,(IntKind.i64.wrap (p0_1+1)),v7003.index⟩:Address)) fun v7005_23=>(Option.bind (at? v7005_23 p0_2) fun v9003=>(Option.bind (Ah v7005_23 p0_2 (⟨v9003.machine,v9003.kind,(IntKind.i64.wrap ((IntKind.i64.wrap (p0_1+1))+1))⟩:Address)) fun v9005_24=>(Bc n v9005_24 (IntKind.i64.wrap ((IntKind.i64.wrap ((IntKind.i64.wrap (p0_1+1))+1))+1)) (IntKind.i64.wrap (p0_2+1))))))))) else (some (p0_1,p0_0)))
def D7 (a0:List Address) (a1:Int):Option (Int × (List Address)):=
 (Bc fuel a0 a1 0)
def BH:Nat→(List ShardCell)→Int→Int→Option (Int × (List ShardCell))
 |0,_,_,_=>none
 |n+1,p0_0,p0_1,p0_2=>(if (decide (p0_2<((List.length p0_0:Nat):Int)))=true then (Option.bind (at? p0_0 p0_2) fun v5003=>(Option.bind (Ah p0_0 p0_2 (⟨p0_1,v5003.level,v5003.value,v5003.data,v5003.aux⟩:ShardCell)) fun v5005_43=>(Option.bind (at? v5005_43 p0_2) fun v7003=>(Option.bind (Ah v5005_43 p0_2 (⟨v7003.kind,(IntKind.i64.wrap (p0_1+1)),v7003.value,v7003.data,v7003.aux⟩:ShardCell)) fun v7005_44=>(Option.bind (at? v7005_44 p0_2) fun v9003=>(Option.bind (Ah v7005_44 p0_2 (⟨v9003.kind,v9003.level,(IntKind.i64.wrap ((IntKind.i64.wrap (p0_1+1))+1)),v9003.data,v9003.aux⟩:ShardCell)) fun v9005_45=>(Option.bind (at? v9005_45 p0_2) fun v11002=>(Option.bind (Bp v11002.data (IntKind.i64.wrap ((IntKind.i64.wrap ((IntKind.i64.wrap (p0_1+1))+1))+1))) fun v11006=>(Option.bind (Ah v9005_45 p0_2 (⟨v11002.kind,v11002.level,v11002.value,v11006.2,v11002.aux⟩:ShardCell)) fun v11006_47=>(Option.bind (at? v11006_47 p0_2) fun v12002=>(Option.bind (D7 v12002.aux v11006.1) fun v12006=>(Option.bind (Ah v11006_47 p0_2 (⟨v12002.kind,v12002.level,v12002.value,v12002.data,v12006.2⟩:ShardCell)) fun v12006_48=>(BH n v12006_48 v12006.1 (IntKind.i64.wrap (p0_2+1))))))))))))))) else (some (p0_1,p0_0)))
def D8 (a0:List ShardCell) (a1:Int):Option (Int × (List ShardCell)):=
 (BH fuel a0 a1 0)
def BQ:Nat→(List ShardVar)→Int→Int→Option (Int × (List ShardVar))
 |0,_,_,_=>none
 |n+1,p0_0,p0_1,p0_2=>(if (decide (p0_2<((List.length p0_0:Nat):Int)))=true then (Option.bind (at? p0_0 p0_2) fun v5005=>(Option.bind (Ah p0_0 p0_2 (⟨(decide ((Int.tmod p0_1 3)=0)),v5005.full,v5005.held⟩:ShardVar)) fun v5007_36=>(Option.bind (at? v5007_36 p0_2) fun v7005=>(Option.bind (Ah v5007_36 p0_2 (⟨v7005.used,(decide ((Int.tmod (IntKind.i64.wrap (p0_1+1)) 3)=0)),v7005.held⟩:ShardVar)) fun v7007_37=>(Option.bind (at? v7007_37 p0_2) fun v9003=>(Option.bind (Ah v7007_37 p0_2 (⟨v9003.used,v9003.full,(⟨(IntKind.i64.wrap ((IntKind.i64.wrap (p0_1+1))+1)),v9003.held.kind,v9003.held.index⟩:Address)⟩:ShardVar)) fun v9006_38=>(Option.bind (at? v9006_38 p0_2) fun v11003=>(Option.bind (Ah v9006_38 p0_2 (⟨v11003.used,v11003.full,(⟨v11003.held.machine,(IntKind.i64.wrap ((IntKind.i64.wrap ((IntKind.i64.wrap (p0_1+1))+1))+1)),v11003.held.index⟩:Address)⟩:ShardVar)) fun v11006_39=>(Option.bind (at? v11006_39 p0_2) fun v13003=>(Option.bind (Ah v11006_39 p0_2 (⟨v13003.used,v13003.full,(⟨v13003.held.machine,v13003.held.kind,(IntKind.i64.wrap ((IntKind.i64.wrap ((IntKind.i64.wrap ((IntKind.i64.wrap (p0_1+1))+1))+1))+1))⟩:Address)⟩:ShardVar)) fun v13006_40=>(BQ n v13006_40 (IntKind.i64.wrap ((IntKind.i64.wrap ((IntKind.i64.wrap ((IntKind.i64.wrap ((IntKind.i64.wrap (p0_1+1))+1))+1))+1))+1)) (IntKind.i64.wrap (p0_2+1))))))))))))) else (some (p0_1,p0_0)))
def Ea (a0:List ShardVar) (a1:Int):Option (Int × (List ShardVar)):=
 (BQ fuel a0 a1 0)
def A5:Nat→(List ShardRedex)→Int→Int→Option (Int × (List ShardRedex))
 |0,_,_,_=>none
 |n+1,p0_0,p0_1,p0_2=>(if (decide (p0_2<((List.length p0_0:Nat):Int)))=true then (Option.bind (at? p0_0 p0_2) fun v5003=>(Option.bind (Ah p0_0 p0_2 (⟨(⟨p0_1,v5003.a.kind,v5003.a.index⟩:Address),v5003.b⟩:ShardRedex)) fun v5006_43=>(Option.bind (at? v5006_43 p0_2) fun v7003=>(Option.bind (Ah v5006_43 p0_2 (⟨(⟨v7003.a.machine,(IntKind.i64.wrap (p0_1+1)),v7003.a.index⟩:Address),v7003.b⟩:ShardRedex)) fun v7006_44=>(Option.bind (at? v7006_44 p0_2) fun v9003=>(Option.bind (Ah v7006_44 p0_2 (⟨(⟨v9003.a.machine,v9003.a.kind,(IntKind.i64.wrap ((IntKind.i64.wrap (p0_1+1))+1))⟩:Address),v9003.b⟩:ShardRedex)) fun v9006_45=>(Option.bind (at? v9006_45 p0_2) fun v11003=>(Option.bind (Ah v9006_45 p0_2 (⟨v11003.a,(⟨(IntKind.i64.wrap ((IntKind.i64.wrap ((IntKind.i64.wrap (p0_1+1))+1))+1)),v11003.b.kind,v11003.b.index⟩:Address)⟩:ShardRedex)) fun v11006_46=>(Option.bind (at? v11006_46 p0_2) fun v13003=>(Option.bind (Ah v11006_46 p0_2 (⟨v13003.a,(⟨v13003.b.machine,(IntKind.i64.wrap ((IntKind.i64.wrap ((IntKind.i64.wrap ((IntKind.i64.wrap (p0_1+1))+1))+1))+1)),v13003.b.index⟩:Address)⟩:ShardRedex)) fun v13006_47=>(Option.bind (at? v13006_47 p0_2) fun v15003=>(Option.bind (Ah v13006_47 p0_2 (⟨v15003.a,(⟨v15003.b.machine,v15003.b.kind,(IntKind.i64.wrap ((IntKind.i64.wrap ((IntKind.i64.wrap ((IntKind.i64.wrap ((IntKind.i64.wrap (p0_1+1))+1))+1))+1))+1))⟩:Address)⟩:ShardRedex)) fun v15006_48=>(A5 n v15006_48 (IntKind.i64.wrap ((IntKind.i64.wrap ((IntKind.i64.wrap ((IntKind.i64.wrap ((IntKind.i64.wrap ((IntKind.i64.wrap (p0_1+1))+1))+1))+1))+1))+1)) (IntKind.i64.wrap (p0_2+1))))))))))))))) else (some (p0_1,p0_0)))
def Dh (a0:List ShardRedex) (a1:Int):Option (Int × (List ShardRedex)):=
 (A5 fuel a0 a1 0)
def CQ:Nat→(List Shard)→Int→Int→Option (Int × (List Shard))
 |0,_,_,_=>none
 |n+1,p0_0,p0_1,p0_2=>(if (decide (p0_2<((List.length p0_0:Nat):Int)))=true then (Option.bind (at? p0_0 p0_2) fun v5002=>(Option.bind (D8 v5002.cells p0_1) fun v5006=>(Option.bind (Ah p0_0 p0_2 (⟨v5006.2,v5002.vars,v5002.redexes⟩:Shard)) fun v5006_37=>(Option.bind (at? v5006_37 p0_2) fun v6002=>(Option.bind (Ea v6002.vars v5006.1) fun v6006=>(Option.bind (Ah v5006_37 p0_2 (⟨v6002.cells,v6006.2,v6002.redexes⟩:Shard)) fun v6006_39=>(Option.bind (at? v6006_39 p0_2) fun v7002=>(Option.bind (Dh v7002.redexes v6006.1) fun v7006=>(Option.bind (Ah v6006_39 p0_2 (⟨v7002.cells,v7002.vars,v7006.2⟩:Shard)) fun v7006_40=>(CQ n v7006_40 v7006.1 (IntKind.i64.wrap (p0_2+1)))))))))))) else (some (p0_1,p0_0)))
def FE (a0:List Shard) (a1:Int):Option (Int × (List Shard)):=
 (CQ fuel a0 a1 0)
def JX (a0:Grid) (a1:Int):Option (Int × (List Shard)):=
 (Option.bind (FE a0.shards a1) fun v2003=>(some (v2003.1,v2003.2)))
def By:Nat→(List Parcel)→Int→Int→Option (Int × (List Parcel))
 |0,_,_,_=>none
 |n+1,p0_0,p0_1,p0_2=>(if (decide (p0_2<((List.length p0_0:Nat):Int)))=true then (Option.bind (at? p0_0 p0_2) fun v5003=>(Option.bind (Ah p0_0 p0_2 (⟨p0_1,v5003.cell,v5003.a,v5003.b⟩:Parcel)) fun v5005_99=>(Option.bind (at? v5005_99 p0_2) fun v7003=>(Option.bind (Ah v5005_99 p0_2 (⟨v7003.kind,(⟨(IntKind.i64.wrap (p0_1+1)),v7003.cell.level,v7003.cell.value,v7003.cell.data,v7003.cell.aux⟩:ShardCell),v7003.a,v7003.b⟩:Parcel)) fun v7006_100=>(Option.bind (at? v7006_100 p0_2) fun v9003=>(Option.bind (Ah v7006_100 p0_2 (⟨v9003.kind,(⟨v9003.cell.kind,(IntKind.i64.wrap ((IntKind.i64.wrap (p0_1+1))+1)),v9003.cell.value,v9003.cell.data,v9003.cell.aux⟩:ShardCell),v9003.a,v9003.b⟩:Parcel)) fun v9006_101=>(Option.bind (at? v9006_101 p0_2) fun v11003=>(Option.bind (Ah v9006_101 p0_2 (⟨v11003.kind,(⟨v11003.cell.kind,v11003.cell.level,(IntKind.i64.wrap ((IntKind.i64.wrap ((IntKind.i64.wrap (p0_1+1))+1))+1)),v11003.cell.data,v11003.cell.aux⟩:ShardCell),v11003.a,v11003.b⟩:Parcel)) fun v11006_102=>(Option.bind (at? v11006_102 p0_2) fun v13002=>(Option.bind (Bp v13002.cell.data (IntKind.i64.wrap ((IntKind.i64.wrap ((IntKind.i64.wrap ((IntKind.i64.wrap (p0_1+1))+1))+1))+1))) fun v13007=>(Option.bind (Ah v11006_102 p0_2 (⟨v13002.kind,(⟨v13002.cell.kind,v13002.cell.level,v13002.cell.value,v13007.2,v13002.cell.aux⟩:ShardCell),v13002.a,v13002.b⟩:Parcel)) fun v13007_104=>(Option.bind (at? v13007_104 p0_2) fun v14002=>(Option.bind (D7 v14002.cell.aux v13007.1) fun v14007=>(Option.bind (Ah v13007_104 p0_2 (⟨v14002.kind,(⟨v14002.cell.kind,v14002.cell.level,v14002.cell.value,v14002.cell.data,v14007.2⟩:ShardCell),v14002.a,v14002.b⟩:Parcel)) fun v14007_106=>(Option.bind (at? v14007_106 p0_2) fun v15003=>(Option.bind (Ah v14007_106 p0_2 (⟨v15003.kind,v15003.cell,(⟨v14007.1,v15003.a.kind,v15003.a.index⟩:Address),v15003.b⟩:Parcel)) fun v15006_107=>(Option.bind (at? v15006_107 p0_2) fun v17003=>(Option.bind (Ah v15006_107 p0_2 (⟨v17003.kind,v17003.cell,(⟨v17003.a.machine,(IntKind.i64.wrap (v14007.1 +1)),v17003.a.index⟩:Address),v17003.b⟩:Parcel)) fun v17006_108=>(Option.bind (at? v17006_108 p0_2) fun v19003=>(Option.bind (Ah v17006_108 p0_2 (⟨v19003.kind,v19003.cell,(⟨v19003.a.machine,v19003.a.kind,(IntKind.i64.wrap ((IntKind.i64.wrap (v14007.1 +1))+1))⟩:Address),v19003.b⟩:Parcel)) fun v19006_109=>(Option.bind (at? v19006_109 p0_2) fun v21003=>(Option.bind (Ah v19006_109 p0_2 (⟨v21003.kind,v21003.cell,v21003.a,(⟨(IntKind.i64.wrap ((IntKind.i64.wrap ((IntKind.i64.wrap (v14007.1 +1))+1))+1)),v21003.b.kind,v21003.b.index⟩:Address)⟩:Parcel)) fun v21006_110=>(Option.bind (at? v21006_110 p0_2) fun v23003=>(Option.bind (Ah v21006_110 p0_2 (⟨v23003.kind,v23003.cell,v23003.a,(⟨v23003.b.machine,(IntKind.i64.wrap ((IntKind.i64.wrap ((IntKind.i64.wrap ((IntKind.i64.wrap (v14007.1 +1))+1))+1))+1)),v23003.b.index⟩:Address)⟩:Parcel)) fun v23006_111=>(Option.bind (at? v23006_111 p0_2) fun v25003=>(Option.bind (Ah v23006_111 p0_2 (⟨v25003.kind,v25003.cell,v25003.a,(⟨v25003.b.machine,v25003.b.kind,(IntKind.i64.wrap ((IntKind.i64.wrap ((IntKind.i64.wrap ((IntKind.i64.wrap ((IntKind.i64.wrap (v14007.1 +1))+1))+1))+1))+1))⟩:Address)⟩:Parcel)) fun v25006_112=>(By n v25006_112 (IntKind.i64.wrap ((IntKind.i64.wrap ((IntKind.i64.wrap ((IntKind.i64.wrap ((IntKind.i64.wrap ((IntKind.i64.wrap (v14007.1 +1))+1))+1))+1))+1))+1)) (IntKind.i64.wrap (p0_2+1))))))))))))))))))))))))))))) else (some (p0_1,p0_0)))
def FR (a0:List Parcel) (a1:Int):Option (Int × (List Parcel)):=
 (By fuel a0 a1 0)
def Bd:Nat→(List (List Parcel))→Int→Int→Option (Int × (List (List Parcel)))
 |0,_,_,_=>none
 |n+1,p0_0,p0_1,p0_2=>(if (decide (p0_2<((List.length p0_0:Nat):Int)))=true then (Option.bind (at? p0_0 p0_2) fun v5002=>(Option.bind (FR v5002 p0_1) fun v5005=>(Option.bind (Ah p0_0 p0_2 v5005.2) fun v5005_8=>(Bd n v5005_8 v5005.1 (IntKind.i64.wrap (p0_2+1)))))) else (some (p0_1,p0_0)))
def D9 (a0:List (List Parcel)) (a1:Int):Option (Int × (List (List Parcel))):=
 (Bd fuel a0 a1 0)
def Bz:Nat→(List (List Int))→Int→Int→Option (Int × (List (List Int)))
 |0,_,_,_=>none
 |n+1,p0_0,p0_1,p0_2=>(if (decide (p0_2<((List.length p0_0:Nat):Int)))=true then (Option.bind (at? p0_0 p0_2) fun v5002=>(Option.bind (Bp v5002 p0_1) fun v5005=>(Option.bind (Ah p0_0 p0_2 v5005.2) fun v5005_8=>(Bz n v5005_8 v5005.1 (IntKind.i64.wrap (p0_2+1)))))) else (some (p0_1,p0_0)))
def Eh (a0:List (List Int)) (a1:Int):Option (Int × (List (List Int))):=
 (Bz fuel a0 a1 0)
def FS (a0:Cluster) (a1:Int):Option (Int × (List Shard) × (List (List Parcel)) × (List (List Int)) × (List Int) × (List Int)):=
 (Option.bind (JX a0.grid a1) fun v2003=>(Option.bind (D9 a0.channels v2003.1) fun v3003=>(Option.bind (Eh a0.counts v3003.1) fun v4003=>(Option.bind (Bp a0.sent v4003.1) fun v5003=>(Option.bind (Bp a0.got v5003.1) fun v6003=>(some (v6003.1,v2003.2,v3003.2,v4003.2,v5003.2,v6003.2)))))))
def Cn:Nat→(List Bool)→Int→Int→Option (Int × (List Bool))
 |0,_,_,_=>none
 |n+1,p0_0,p0_1,p0_2=>(if (decide (p0_2<((List.length p0_0:Nat):Int)))=true then (Option.bind (at? p0_0 p0_2) fun v5005=>(Option.bind (Ah p0_0 p0_2 (decide ((Int.tmod p0_1 3)=0))) fun v5006_8=>(Cn n v5006_8 (IntKind.i64.wrap (p0_1+1)) (IntKind.i64.wrap (p0_2+1))))) else (some (p0_1,p0_0)))
def Fv (a0:List Bool) (a1:Int):Option (Int × (List Bool)):=
 (Cn fuel a0 a1 0)
def JY (a0:Shot) (a1:Int):Option (Int × (List Bool) × (List Shard) × (List (List Int)) × (List Bool) × (List (List Parcel))):=
 (Option.bind (Fv a0.taken a1) fun v2003=>(Option.bind (FE a0.shards v2003.1) fun v3003=>(Option.bind (Eh a0.counts v3003.1) fun v4003=>(Option.bind (Fv a0.recording v4003.1) fun v5003=>(Option.bind (D9 a0.saved v5003.1) fun v6003=>(some (v6003.1,v2003.2,v3003.2,v4003.2,v5003.2,v6003.2)))))))
def Ge (a0:Watched) (a1:Int):Option (Int × (List Shard) × (List (List Parcel)) × (List (List Int)) × (List Int) × (List Int) × (List Bool) × (List Shard) × (List (List Int)) × (List Bool) × (List (List Parcel))):=
 (Option.bind (FS a0.cluster a1) fun v2003=>(Option.bind (JY a0.shot v2003.1) fun v3003=>(some (v3003.1,v2003.2.1,v2003.2.2.1,v2003.2.2.2.1,v2003.2.2.2.2.1,v2003.2.2.2.2.2,v3003.2.1,v3003.2.2.1,v3003.2.2.2.1,v3003.2.2.2.2.1,v3003.2.2.2.2.2))))
def Eg (a0:Service) (a1:Int):Option (Int × (List Shard) × (List (List Parcel)) × (List (List Int)) × (List Int) × (List Int) × (List Bool) × (List Shard) × (List (List Int)) × (List Bool) × (List (List Parcel)) × (List Shard) × (List (List Parcel)) × (List (List Int)) × (List Int) × (List Int)):=
 (Option.bind (Ge a0.watched a1) fun v2003=>(Option.bind (FS a0.good v2003.1) fun v3003=>(some (v3003.1,v2003.2.1,v2003.2.2.1,v2003.2.2.2.1,v2003.2.2.2.2.1,v2003.2.2.2.2.2.1,v2003.2.2.2.2.2.2.1,v2003.2.2.2.2.2.2.2.1,v2003.2.2.2.2.2.2.2.2.1,v2003.2.2.2.2.2.2.2.2.2.1,v2003.2.2.2.2.2.2.2.2.2.2,v3003.2.1,v3003.2.2.1,v3003.2.2.2.1,v3003.2.2.2.2.1,v3003.2.2.2.2.2))))
def Be:Nat→(List Address)→Int→Int→Option (Int)
 |0,_,_,_=>none
 |n+1,a0,p0_0,p0_1=>(if (decide (p0_1<((List.length a0:Nat):Int)))=true then (Option.bind (at? a0 p0_1) fun v5002=>(if (!decide (v5002.machine=p0_0))=true then (some (-1)) else (Option.bind (at? a0 p0_1) fun v8002=>(if (!decide (v8002.kind=(IntKind.i64.wrap (p0_0+1))))=true then (some (-1)) else (Option.bind (at? a0 p0_1) fun v11002=>(if (!decide (v11002.index=(IntKind.i64.wrap ((IntKind.i64.wrap (p0_0+1))+1))))=true then (some (-1)) else (Be n a0 (IntKind.i64.wrap ((IntKind.i64.wrap ((IntKind.i64.wrap (p0_0+1))+1))+1)) (IntKind.i64.wrap (p0_1+1))))))))) else (some p0_0))
def EA (a0:List Address) (a1:Int):Option (Int):=
 (Be fuel a0 a1 0)
def BI:Nat→(List ShardCell)→Int→Int→Option (Int)
 |0,_,_,_=>none
 |n+1,a0,p0_0,p0_1=>(if (decide (p0_1<((List.length a0:Nat):Int)))=true then (Option.bind (at? a0 p0_1) fun v5002=>(if (!decide (v5002.kind=p0_0))=true then (some (-1)) else (Option.bind (at? a0 p0_1) fun v8002=>(if (!decide (v8002.level=(IntKind.i64.wrap (p0_0+1))))=true then (some (-1)) else (Option.bind (at? a0 p0_1) fun v11002=>(if (!decide (v11002.value=(IntKind.i64.wrap ((IntKind.i64.wrap (p0_0+1))+1))))=true then (some (-1)) else (Option.bind (at? a0 p0_1) fun v14002=>(Option.bind (C5 v14002.data (IntKind.i64.wrap ((IntKind.i64.wrap ((IntKind.i64.wrap (p0_0+1))+1))+1))) fun v14006=>(if (decide (v14006<0))=true then (some (-1)) else (Option.bind (at? a0 p0_1) fun v17002=>(Option.bind (EA v17002.aux v14006) fun v17006=>(if (decide (v17006<0))=true then (some (-1)) else (BI n a0 v17006 (IntKind.i64.wrap (p0_1+1))))))))))))))) else (some p0_0))
def EB (a0:List ShardCell) (a1:Int):Option (Int):=
 (BI fuel a0 a1 0)
def BR:Nat→(List ShardVar)→Int→Int→Option (Int)
 |0,_,_,_=>none
 |n+1,a0,p0_0,p0_1=>(if (decide (p0_1<((List.length a0:Nat):Int)))=true then (Option.bind (at? a0 p0_1) fun v5002=>(if (!(v5002.used == (decide ((Int.tmod p0_0 3)=0))))=true then (some (-1)) else (Option.bind (at? a0 p0_1) fun v8002=>(if (!(v8002.full == (decide ((Int.tmod (IntKind.i64.wrap (p0_0+1)) 3)=0))))=true then (some (-1)) else (Option.bind (at? a0 p0_1) fun v11002=>(if (!decide (v11002.held.machine=(IntKind.i64.wrap ((IntKind.i64.wrap (p0_0+1))+1))))=true then (some (-1)) else (Option.bind (at? a0 p0_1) fun v14002=>(if (!decide (v14002.held.kind=(IntKind.i64.wrap ((IntKind.i64.wrap ((IntKind.i64.wrap (p0_0+1))+1))+1))))=true then (some (-1)) else (Option.bind (at? a0 p0_1) fun v17002=>(if (!decide (v17002.held.index=(IntKind.i64.wrap ((IntKind.i64.wrap ((IntKind.i64.wrap ((IntKind.i64.wrap (p0_0+1))+1))+1))+1))))=true then (some (-1)) else (BR n a0 (IntKind.i64.wrap ((IntKind.i64.wrap ((IntKind.i64.wrap ((IntKind.i64.wrap ((IntKind.i64.wrap (p0_0+1))+1))+1))+1))+1)) (IntKind.i64.wrap (p0_1+1))))))))))))) else (some p0_0))
def Eb (a0:List ShardVar) (a1:Int):Option (Int):=
 (BR fuel a0 a1 0)
def A6:Nat→(List ShardRedex)→Int→Int→Option (Int)
 |0,_,_,_=>none
 |n+1,a0,p0_0,p0_1=>(if (decide (p0_1<((List.length a0:Nat):Int)))=true then (Option.bind (at? a0 p0_1) fun v5002=>(if (!decide (v5002.a.machine=p0_0))=true then (some (-1)) else (Option.bind (at? a0 p0_1) fun v8002=>(if (!decide (v8002.a.kind=(IntKind.i64.wrap (p0_0+1))))=true then (some (-1)) else (Option.bind (at? a0 p0_1) fun v11002=>(if (!decide (v11002.a.index=(IntKind.i64.wrap ((IntKind.i64.wrap (p0_0+1))+1))))=true then (some (-1)) else (Option.bind (at? a0 p0_1) fun v14002=>(if (!decide (v14002.b.machine=(IntKind.i64.wrap ((IntKind.i64.wrap ((IntKind.i64.wrap (p0_0+1))+1))+1))))=true then (some (-1)) else (Option.bind (at? a0 p0_1) fun v17002=>(if (!decide (v17002.b.kind=(IntKind.i64.wrap ((IntKind.i64.wrap ((IntKind.i64.wrap ((IntKind.i64.wrap (p0_0+1))+1))+1))+1))))=true then (some (-1)) else (Option.bind (at? a0 p0_1) fun v20002=>(if (!decide (v20002.b.index=(IntKind.i64.wrap ((IntKind.i64.wrap ((IntKind.i64.wrap ((IntKind.i64.wrap ((IntKind.i64.wrap (p0_0+1))+1))+1))+1))+1))))=true then (some (-1)) else (A6 n a0 (IntKind.i64.wrap ((IntKind.i64.wrap ((IntKind.i64.wrap ((IntKind.i64.wrap ((IntKind.i64.wrap ((IntKind.i64.wrap (p0_0+1))+1))+1))+1))+1))+1)) (IntKind.i64.wrap (p0_1+1))))))))))))))) else (some p0_0))
def Di (a0:List ShardRedex) (a1:Int):Option (Int):=
 (A6 fuel a0 a1 0)
def CR:Nat→(List Shard)→Int→Int→Option (Int)
 |0,_,_,_=>none
 |n+1,a0,p0_0,p0_1=>(if (decide (p0_1<((List.length a0:Nat):Int)))=true then (Option.bind (at? a0 p0_1) fun v5002=>(Option.bind (EB v5002.cells p0_0) fun v5006=>(if (decide (v5006<0))=true then (some (-1)) else (Option.bind (at? a0 p0_1) fun v8002=>(Option.bind (Eb v8002.vars v5006) fun v8006=>(if (decide (v8006<0))=true then (some (-1)) else (Option.bind (at? a0 p0_1) fun v11002=>(Option.bind (Di v11002.redexes v8006) fun v11006=>(if (decide (v11006<0))=true then (some (-1)) else (CR n a0 v11006 (IntKind.i64.wrap (p0_1+1)))))))))))) else (some p0_0))
def FF (a0:List Shard) (a1:Int):Option (Int):=
 (CR fuel a0 a1 0)
def JZ (a0:Grid) (a1:Int):Option (Int):=
 (Option.bind (FF a0.shards a1) fun v2003=>(if (decide (v2003<0))=true then (some (-1)) else (some v2003)))
def B0:Nat→(List Parcel)→Int→Int→Option (Int)
 |0,_,_,_=>none
 |n+1,a0,p0_0,p0_1=>(if (decide (p0_1<((List.length a0:Nat):Int)))=true then (Option.bind (at? a0 p0_1) fun v5002=>(if (!decide (v5002.kind=p0_0))=true then (some (-1)) else (Option.bind (at? a0 p0_1) fun v8002=>(if (!decide (v8002.cell.kind=(IntKind.i64.wrap (p0_0+1))))=true then (some (-1)) else (Option.bind (at? a0 p0_1) fun v11002=>(if (!decide (v11002.cell.level=(IntKind.i64.wrap ((IntKind.i64.wrap (p0_0+1))+1))))=true then (some (-1)) else (Option.bind (at? a0 p0_1) fun v14002=>(if (!decide (v14002.cell.value=(IntKind.i64.wrap ((IntKind.i64.wrap ((IntKind.i64.wrap (p0_0+1))+1))+1))))=true then (some (-1)) else (Option.bind (at? a0 p0_1) fun v17002=>(Option.bind (C5 v17002.cell.data (IntKind.i64.wrap ((IntKind.i64.wrap ((IntKind.i64.wrap ((IntKind.i64.wrap (p0_0+1))+1))+1))+1))) fun v17007=>(if (decide (v17007<0))=true then (some (-1)) else (Option.bind (at? a0 p0_1) fun v20002=>(Option.bind (EA v20002.cell.aux v17007) fun v20007=>(if (decide (v20007<0))=true then (some (-1)) else (Option.bind (at? a0 p0_1) fun v23002=>(if (!decide (v23002.a.machine=v20007))=true then (some (-1)) else (Option.bind (at? a0 p0_1) fun v26002=>(if (!decide (v26002.a.kind=(IntKind.i64.wrap (v20007+1))))=true then (some (-1)) else (Option.bind (at? a0 p0_1) fun v29002=>(if (!decide (v29002.a.index=(IntKind.i64.wrap ((IntKind.i64.wrap (v20007+1))+1))))=true then (some (-1)) else (Option.bind (at? a0 p0_1) fun v32002=>(if (!decide (v32002.b.machine=(IntKind.i64.wrap ((IntKind.i64.wrap ((IntKind.i64.wrap (v20007+1))+1))+1))))=true then (some (-1)) else (Option.bind (at? a0 p0_1) fun v35002=>(if (!decide (v35002.b.kind=(IntKind.i64.wrap ((IntKind.i64.wrap ((IntKind.i64.wrap ((IntKind.i64.wrap (v20007+1))+1))+1))+1))))=true then (some (-1)) else (Option.bind (at? a0 p0_1) fun v38002=>(if (!decide (v38002.b.index=(IntKind.i64.wrap ((IntKind.i64.wrap ((IntKind.i64.wrap ((IntKind.i64.wrap ((IntKind.i64.wrap (v20007+1))+1))+1))+1))+1))))=true then (some (-1)) else (B0 n a0 (IntKind.i64.wrap ((IntKind.i64.wrap ((IntKind.i64.wrap ((IntKind.i64.wrap ((IntKind.i64.wrap ((IntKind.i64.wrap (v20007+1))+1))+1))+1))+1))+1)) (IntKind.i64.wrap (p0_1+1))))))))))))))))))))))))))))) else (some p0_0))
def FT (a0:List Parcel) (a1:Int):Option (Int):=
 (B0 fuel a0 a1 0)
def Bf:Nat→(List (List Parcel))→Int→Int→Option (Int)
 |0,_,_,_=>none
 |n+1,a0,p0_0,p0_1=>(if (decide (p0_1<((List.length a0:Nat):Int)))=true then (Option.bind (at? a0 p0_1) fun v5002=>(Option.bind (FT v5002 p0_0) fun v5005=>(if (decide (v5005<0))=true then (some (-1)) else (Bf n a0 v5005 (IntKind.i64.wrap (p0_1+1)))))) else (some p0_0))
def EC (a0:List (List Parcel)) (a1:Int):Option (Int):=
 (Bf fuel a0 a1 0)
def B1:Nat→(List (List Int))→Int→Int→Option (Int)
 |0,_,_,_=>none
 |n+1,a0,p0_0,p0_1=>(if (decide (p0_1<((List.length a0:Nat):Int)))=true then (Option.bind (at? a0 p0_1) fun v5002=>(Option.bind (C5 v5002 p0_0) fun v5005=>(if (decide (v5005<0))=true then (some (-1)) else (B1 n a0 v5005 (IntKind.i64.wrap (p0_1+1)))))) else (some p0_0))
def Ei (a0:List (List Int)) (a1:Int):Option (Int):=
 (B1 fuel a0 a1 0)
def FU (a0:Cluster) (a1:Int):Option (Int):=
 (Option.bind (JZ a0.grid a1) fun v2003=>(if (decide (v2003<0))=true then (some (-1)) else (Option.bind (EC a0.channels v2003) fun v5003=>(if (decide (v5003<0))=true then (some (-1)) else (Option.bind (Ei a0.counts v5003) fun v8003=>(if (decide (v8003<0))=true then (some (-1)) else (Option.bind (C5 a0.sent v8003) fun v11003=>(if (decide (v11003<0))=true then (some (-1)) else (Option.bind (C5 a0.got v11003) fun v14003=>(if (decide (v14003<0))=true then (some (-1)) else (some v14003)))))))))))
def Co:Nat→(List Bool)→Int→Int→Option (Int)
 |0,_,_,_=>none
 |n+1,a0,p0_0,p0_1=>(if (decide (p0_1<((List.length a0:Nat):Int)))=true then (Option.bind (at? a0 p0_1) fun v5002=>(if (!(v5002 == (decide ((Int.tmod p0_0 3)=0))))=true then (some (-1)) else (Co n a0 (IntKind.i64.wrap (p0_0+1)) (IntKind.i64.wrap (p0_1+1))))) else (some p0_0))
def Fw (a0:List Bool) (a1:Int):Option (Int):=
 (Co fuel a0 a1 0)
def Ja (a0:Shot) (a1:Int):Option (Int):=
 (Option.bind (Fw a0.taken a1) fun v2003=>(if (decide (v2003<0))=true then (some (-1)) else (Option.bind (FF a0.shards v2003) fun v5003=>(if (decide (v5003<0))=true then (some (-1)) else (Option.bind (Ei a0.counts v5003) fun v8003=>(if (decide (v8003<0))=true then (some (-1)) else (Option.bind (Fw a0.recording v8003) fun v11003=>(if (decide (v11003<0))=true then (some (-1)) else (Option.bind (EC a0.saved v11003) fun v14003=>(if (decide (v14003<0))=true then (some (-1)) else (some v14003)))))))))))
def Gf (a0:Watched) (a1:Int):Option (Int):=
 (Option.bind (FU a0.cluster a1) fun v2003=>(if (decide (v2003<0))=true then (some (-1)) else (Option.bind (Ja a0.shot v2003) fun v5003=>(if (decide (v5003<0))=true then (some (-1)) else (some v5003)))))
def Do (a0:Service) (a1:Int):Option (Int):=
 (Option.bind (Gf a0.watched a1) fun v2003=>(if (decide (v2003<0))=true then (some (-1)) else (Option.bind (FU a0.good v2003) fun v5003=>(if (decide (v5003<0))=true then (some (-1)) else (some v5003)))))
end Go.Proofs.YtclmbjbbojdojaaGreat.Ab
