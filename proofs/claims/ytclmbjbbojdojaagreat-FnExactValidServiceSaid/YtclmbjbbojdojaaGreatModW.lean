/-
  Data of the program as Lean types; how they lie in memory. Printed by wip/ab/gen.py.
-/
import Derived.Test.YtclmbjbbojdojaaGreatAbY
import Derived.Test.YtclmbjbbojdojaaGreatMod
namespace Go.Proofs.YtclmbjbbojdojaaGreat.Ab
set_option linter.unusedVariables false
set_option linter.unusedSimpArgs false
set_option maxRecDepth 20000
set_option maxHeartbeats 4000000
open Go.RowKit
structure Address where
 machine:Int
 kind:Int
 index:Int
def Address.ds (c:Address):List D:=[.int .i64 c.machine,.int .i64 c.kind,.int .i64 c.index]
theorem Address.ds_eq (c:Address):c.ds=[.int .i64 c.machine,.int .i64 c.kind,.int .i64 c.index] :=rfl
@[go_sem] def Address.avs (c:Address):List AV:=[.int .i64 c.machine,.int .i64 c.kind,.int .i64 c.index]
@[go_sem] def Address.rv (c:Address):List RV:=[.int .i64 c.machine,.int .i64 c.kind,.int .i64 c.index]
@[go_sem] def Address.rvn (c:Address):List RV:=[.int .i64 c.machine,.int .i64 c.kind,.int .i64 c.index]
attribute [go_sem] Address.ds_eq
theorem Address.ds_len (c:Address):c.ds.length=3:=by rw [Address.ds_eq]; rfl
structure ShardCell where
 kind:Int
 level:Int
 value:Int
 data:List Int
 aux:List Address
def ShardCell.ds (c:ShardCell):List D:=[.int .i64 c.kind,.int .i64 c.level,.int .i64 c.value,.sl (c.data.map AB),.sl (c.aux.map Address.ds)]
theorem ShardCell.ds_eq (c:ShardCell):c.ds=[.int .i64 c.kind,.int .i64 c.level,.int .i64 c.value,.sl (c.data.map AB),.sl (c.aux.map Address.ds)] :=rfl
@[go_sem] def ShardCell.avs (c:ShardCell):List AV:=[.int .i64 c.kind,.int .i64 c.level,.int .i64 c.value,.ro (c.data.map AB),.ro (c.aux.map Address.ds)]
@[go_sem] def ShardCell.rv (c:ShardCell):List RV:=[.int .i64 c.kind,.int .i64 c.level,.int .i64 c.value,.ow (some 1) (c.data.map AB),.ow (some 3) (c.aux.map Address.ds)]
@[go_sem] def ShardCell.rvn (c:ShardCell):List RV:=[.int .i64 c.kind,.int .i64 c.level,.int .i64 c.value,.ow none (c.data.map AB),.ow none (c.aux.map Address.ds)]
attribute [go_sem] ShardCell.ds_eq
theorem ShardCell.ds_len (c:ShardCell):c.ds.length=5:=by rw [ShardCell.ds_eq]; rfl
def ShardCell.dz (c:ShardCell):List D:=[.int .i64 c.kind,.int .i64 c.level,.int .i64 c.value,.fz (c.data.map AB),.fz (c.aux.map Address.ds)]
@[go_sem] theorem ShardCell.dz_eq (c:ShardCell):c.dz=[.int .i64 c.kind,.int .i64 c.level,.int .i64 c.value,.fz (c.data.map AB),.fz (c.aux.map Address.ds)] :=rfl
@[go_sem] theorem ShardCell.dz_er (l:List ShardCell):erR (l.map ShardCell.dz)=List.map ShardCell.ds l:=Ff (fun c=>by rw [ShardCell.ds_eq]; simp only [ShardCell.dz,erC,er]) l
structure ShardVar where
 used:Bool
 full:Bool
 held:Address
def ShardVar.ds (c:ShardVar):List D:=[.bool c.used,.bool c.full,.int .i64 c.held.machine,.int .i64 c.held.kind,.int .i64 c.held.index]
theorem ShardVar.ds_eq (c:ShardVar):c.ds=[.bool c.used,.bool c.full,.int .i64 c.held.machine,.int .i64 c.held.kind,.int .i64 c.held.index] :=rfl
@[go_sem] def ShardVar.avs (c:ShardVar):List AV:=[.bool c.used,.bool c.full,.int .i64 c.held.machine,.int .i64 c.held.kind,.int .i64 c.held.index]
@[go_sem] def ShardVar.rv (c:ShardVar):List RV:=[.bool c.used,.bool c.full,.int .i64 c.held.machine,.int .i64 c.held.kind,.int .i64 c.held.index]
@[go_sem] def ShardVar.rvn (c:ShardVar):List RV:=[.bool c.used,.bool c.full,.int .i64 c.held.machine,.int .i64 c.held.kind,.int .i64 c.held.index]
attribute [go_sem] ShardVar.ds_eq
theorem ShardVar.ds_len (c:ShardVar):c.ds.length=5:=by rw [ShardVar.ds_eq]; rfl
structure ShardRedex where
 a:Address
 b:Address
def ShardRedex.ds (c:ShardRedex):List D:=[.int .i64 c.a.machine,.int .i64 c.a.kind,.int .i64 c.a.index,.int .i64 c.b.machine,.int .i64 c.b.kind,.int .i64 c.b.index]
theorem ShardRedex.ds_eq (c:ShardRedex):c.ds=[.int .i64 c.a.machine,.int .i64 c.a.kind,.int .i64 c.a.index,.int .i64 c.b.machine,.int .i64 c.b.kind,.int .i64 c.b.index] :=rfl
@[go_sem] def ShardRedex.avs (c:ShardRedex):List AV:=[.int .i64 c.a.machine,.int .i64 c.a.kind,.int .i64 c.a.index,.int .i64 c.b.machine,.int .i64 c.b.kind,.int .i64 c.b.index]
@[go_sem] def ShardRedex.rv (c:ShardRedex):List RV:=[.int .i64 c.a.machine,.int .i64 c.a.kind,.int .i64 c.a.index,.int .i64 c.b.machine,.int .i64 c.b.kind,.int .i64 c.b.index]
@[go_sem] def ShardRedex.rvn (c:ShardRedex):List RV:=[.int .i64 c.a.machine,.int .i64 c.a.kind,.int .i64 c.a.index,.int .i64 c.b.machine,.int .i64 c.b.kind,.int .i64 c.b.index]
attribute [go_sem] ShardRedex.ds_eq
theorem ShardRedex.ds_len (c:ShardRedex):c.ds.length=6:=by rw [ShardRedex.ds_eq]; rfl
structure Shard where
 cells:List ShardCell
 vars:List ShardVar
 redexes:List ShardRedex
def Shard.ds (c:Shard):List D:=[.sl (c.cells.map ShardCell.ds),.sl (c.vars.map ShardVar.ds),.sl (c.redexes.map ShardRedex.ds)]
theorem Shard.ds_eq (c:Shard):c.ds=[.sl (c.cells.map ShardCell.ds),.sl (c.vars.map ShardVar.ds),.sl (c.redexes.map ShardRedex.ds)] :=rfl
@[go_sem] def Shard.avs (c:Shard):List AV:=[.ro (c.cells.map ShardCell.ds),.ro (c.vars.map ShardVar.ds),.ro (c.redexes.map ShardRedex.ds)]
@[go_sem] def Shard.rv (c:Shard):List RV:=[.ow (some 5) (c.cells.map ShardCell.ds),.ow (some 5) (c.vars.map ShardVar.ds),.ow (some 6) (c.redexes.map ShardRedex.ds)]
@[go_sem] def Shard.rvn (c:Shard):List RV:=[.ow none (c.cells.map ShardCell.ds),.ow none (c.vars.map ShardVar.ds),.ow none (c.redexes.map ShardRedex.ds)]
attribute [go_sem] Shard.ds_eq
theorem Shard.ds_len (c:Shard):c.ds.length=3:=by rw [Shard.ds_eq]; rfl
def Shard.dz (c:Shard):List D:=[.fz (c.cells.map ShardCell.ds),.fz (c.vars.map ShardVar.ds),.fz (c.redexes.map ShardRedex.ds)]
@[go_sem] theorem Shard.dz_eq (c:Shard):c.dz=[.fz (c.cells.map ShardCell.ds),.fz (c.vars.map ShardVar.ds),.fz (c.redexes.map ShardRedex.ds)] :=rfl
@[go_sem] theorem Shard.dz_er (l:List Shard):erR (l.map Shard.dz)=List.map Shard.ds l:=Ff (fun c=>by rw [Shard.ds_eq]; simp only [Shard.dz,erC,er]) l
structure Grid where
 shards:List Shard
 root:Address
def Grid.ds (c:Grid):List D:=[.sl (c.shards.map Shard.ds),.int .i64 c.root.machine,.int .i64 c.root.kind,.int .i64 c.root.index]
theorem Grid.ds_eq (c:Grid):c.ds=[.sl (c.shards.map Shard.ds),.int .i64 c.root.machine,.int .i64 c.root.kind,.int .i64 c.root.index] :=rfl
@[go_sem] def Grid.avs (c:Grid):List AV:=[.ro (c.shards.map Shard.ds),.int .i64 c.root.machine,.int .i64 c.root.kind,.int .i64 c.root.index]
@[go_sem] def Grid.rv (c:Grid):List RV:=[.ow (some 3) (c.shards.map Shard.ds),.int .i64 c.root.machine,.int .i64 c.root.kind,.int .i64 c.root.index]
@[go_sem] def Grid.rvn (c:Grid):List RV:=[.ow none (c.shards.map Shard.ds),.int .i64 c.root.machine,.int .i64 c.root.kind,.int .i64 c.root.index]
attribute [go_sem] Grid.ds_eq
theorem Grid.ds_len (c:Grid):c.ds.length=4:=by rw [Grid.ds_eq]; rfl
def Grid.dz (c:Grid):List D:=[.fz (c.shards.map Shard.ds),.int .i64 c.root.machine,.int .i64 c.root.kind,.int .i64 c.root.index]
@[go_sem] theorem Grid.dz_eq (c:Grid):c.dz=[.fz (c.shards.map Shard.ds),.int .i64 c.root.machine,.int .i64 c.root.kind,.int .i64 c.root.index] :=rfl
@[go_sem] theorem Grid.dz_er (l:List Grid):erR (l.map Grid.dz)=List.map Grid.ds l:=Ff (fun c=>by rw [Grid.ds_eq]; simp only [Grid.dz,erC,er]) l
structure Parcel where
 kind:Int
 cell:ShardCell
 a:Address
 b:Address
def Parcel.ds (c:Parcel):List D:=[.int .i64 c.kind,.int .i64 c.cell.kind,.int .i64 c.cell.level,.int .i64 c.cell.value,.sl (c.cell.data.map AB),.sl (c.cell.aux.map Address.ds),.int .i64 c.a.machine,.int .i64 c.a.kind,.int .i64 c.a.index,.int .i64 c.b.machine,.int .i64 c.b.kind,.int .i64 c.b.index]
theorem Parcel.ds_eq (c:Parcel):c.ds=[.int .i64 c.kind,.int .i64 c.cell.kind,.int .i64 c.cell.level,.int .i64 c.cell.value,.sl (c.cell.data.map AB),.sl (c.cell.aux.map Address.ds),.int .i64 c.a.machine,.int .i64 c.a.kind,.int .i64 c.a.index,.int .i64 c.b.machine,.int .i64 c.b.kind,.int .i64 c.b.index] :=rfl
@[go_sem] def Parcel.avs (c:Parcel):List AV:=[.int .i64 c.kind,.int .i64 c.cell.kind,.int .i64 c.cell.level,.int .i64 c.cell.value,.ro (c.cell.data.map AB),.ro (c.cell.aux.map Address.ds),.int .i64 c.a.machine,.int .i64 c.a.kind,.int .i64 c.a.index,.int .i64 c.b.machine,.int .i64 c.b.kind,.int .i64 c.b.index]
@[go_sem] def Parcel.rv (c:Parcel):List RV:=[.int .i64 c.kind,.int .i64 c.cell.kind,.int .i64 c.cell.level,.int .i64 c.cell.value,.ow (some 1) (c.cell.data.map AB),.ow (some 3) (c.cell.aux.map Address.ds),.int .i64 c.a.machine,.int .i64 c.a.kind,.int .i64 c.a.index,.int .i64 c.b.machine,.int .i64 c.b.kind,.int .i64 c.b.index]
@[go_sem] def Parcel.rvn (c:Parcel):List RV:=[.int .i64 c.kind,.int .i64 c.cell.kind,.int .i64 c.cell.level,.int .i64 c.cell.value,.ow none (c.cell.data.map AB),.ow none (c.cell.aux.map Address.ds),.int .i64 c.a.machine,.int .i64 c.a.kind,.int .i64 c.a.index,.int .i64 c.b.machine,.int .i64 c.b.kind,.int .i64 c.b.index]
attribute [go_sem] Parcel.ds_eq
theorem Parcel.ds_len (c:Parcel):c.ds.length=12:=by rw [Parcel.ds_eq]; rfl
def Parcel.dz (c:Parcel):List D:=[.int .i64 c.kind,.int .i64 c.cell.kind,.int .i64 c.cell.level,.int .i64 c.cell.value,.fz (c.cell.data.map AB),.fz (c.cell.aux.map Address.ds),.int .i64 c.a.machine,.int .i64 c.a.kind,.int .i64 c.a.index,.int .i64 c.b.machine,.int .i64 c.b.kind,.int .i64 c.b.index]
@[go_sem] theorem Parcel.dz_eq (c:Parcel):c.dz=[.int .i64 c.kind,.int .i64 c.cell.kind,.int .i64 c.cell.level,.int .i64 c.cell.value,.fz (c.cell.data.map AB),.fz (c.cell.aux.map Address.ds),.int .i64 c.a.machine,.int .i64 c.a.kind,.int .i64 c.a.index,.int .i64 c.b.machine,.int .i64 c.b.kind,.int .i64 c.b.index] :=rfl
@[go_sem] theorem Parcel.dz_er (l:List Parcel):erR (l.map Parcel.dz)=List.map Parcel.ds l:=Ff (fun c=>by rw [Parcel.ds_eq]; simp only [Parcel.dz,erC,er]) l
structure Cluster where
 grid:Grid
 channels:List (List Parcel)
 counts:List (List Int)
 sent:List Int
 got:List Int
def Cluster.ds (c:Cluster):List D:=[.sl (c.grid.shards.map Shard.ds),.int .i64 c.grid.root.machine,.int .i64 c.grid.root.kind,.int .i64 c.grid.root.index,.sl (List.map (slD Parcel.ds) c.channels),.sl (List.map (slD AB) c.counts),.sl (c.sent.map AB),.sl (c.got.map AB)]
theorem Cluster.ds_eq (c:Cluster):c.ds=[.sl (c.grid.shards.map Shard.ds),.int .i64 c.grid.root.machine,.int .i64 c.grid.root.kind,.int .i64 c.grid.root.index,.sl (List.map (slD Parcel.ds) c.channels),.sl (List.map (slD AB) c.counts),.sl (c.sent.map AB),.sl (c.got.map AB)] :=rfl
@[go_sem] def Cluster.avs (c:Cluster):List AV:=[.ro (c.grid.shards.map Shard.ds),.int .i64 c.grid.root.machine,.int .i64 c.grid.root.kind,.int .i64 c.grid.root.index,.ro (List.map (slD Parcel.ds) c.channels),.ro (List.map (slD AB) c.counts),.ro (c.sent.map AB),.ro (c.got.map AB)]
@[go_sem] def Cluster.rv (c:Cluster):List RV:=[.ow (some 3) (c.grid.shards.map Shard.ds),.int .i64 c.grid.root.machine,.int .i64 c.grid.root.kind,.int .i64 c.grid.root.index,.ow (some 1) (List.map (slD Parcel.ds) c.channels),.ow (some 1) (List.map (slD AB) c.counts),.ow (some 1) (c.sent.map AB),.ow (some 1) (c.got.map AB)]
@[go_sem] def Cluster.rvn (c:Cluster):List RV:=[.ow none (c.grid.shards.map Shard.ds),.int .i64 c.grid.root.machine,.int .i64 c.grid.root.kind,.int .i64 c.grid.root.index,.ow none (List.map (slD Parcel.ds) c.channels),.ow none (List.map (slD AB) c.counts),.ow none (c.sent.map AB),.ow none (c.got.map AB)]
attribute [go_sem] Cluster.ds_eq
theorem Cluster.ds_len (c:Cluster):c.ds.length=8:=by rw [Cluster.ds_eq]; rfl
def Cluster.dz (c:Cluster):List D:=[.fz (c.grid.shards.map Shard.ds),.int .i64 c.grid.root.machine,.int .i64 c.grid.root.kind,.int .i64 c.grid.root.index,.fz (List.map (slD Parcel.ds) c.channels),.fz (List.map (slD AB) c.counts),.fz (c.sent.map AB),.fz (c.got.map AB)]
@[go_sem] theorem Cluster.dz_eq (c:Cluster):c.dz=[.fz (c.grid.shards.map Shard.ds),.int .i64 c.grid.root.machine,.int .i64 c.grid.root.kind,.int .i64 c.grid.root.index,.fz (List.map (slD Parcel.ds) c.channels),.fz (List.map (slD AB) c.counts),.fz (c.sent.map AB),.fz (c.got.map AB)] :=rfl
@[go_sem] theorem Cluster.dz_er (l:List Cluster):erR (l.map Cluster.dz)=List.map Cluster.ds l:=Ff (fun c=>by rw [Cluster.ds_eq]; simp only [Cluster.dz,erC,er]) l
structure Shot where
 taken:List Bool
 shards:List Shard
 counts:List (List Int)
 recording:List Bool
 saved:List (List Parcel)
def Shot.ds (c:Shot):List D:=[.sl (c.taken.map AN),.sl (c.shards.map Shard.ds),.sl (List.map (slD AB) c.counts),.sl (c.recording.map AN),.sl (List.map (slD Parcel.ds) c.saved)]
theorem Shot.ds_eq (c:Shot):c.ds=[.sl (c.taken.map AN),.sl (c.shards.map Shard.ds),.sl (List.map (slD AB) c.counts),.sl (c.recording.map AN),.sl (List.map (slD Parcel.ds) c.saved)] :=rfl
@[go_sem] def Shot.avs (c:Shot):List AV:=[.ro (c.taken.map AN),.ro (c.shards.map Shard.ds),.ro (List.map (slD AB) c.counts),.ro (c.recording.map AN),.ro (List.map (slD Parcel.ds) c.saved)]
@[go_sem] def Shot.rv (c:Shot):List RV:=[.ow (some 1) (c.taken.map AN),.ow (some 3) (c.shards.map Shard.ds),.ow (some 1) (List.map (slD AB) c.counts),.ow (some 1) (c.recording.map AN),.ow (some 1) (List.map (slD Parcel.ds) c.saved)]
@[go_sem] def Shot.rvn (c:Shot):List RV:=[.ow none (c.taken.map AN),.ow none (c.shards.map Shard.ds),.ow none (List.map (slD AB) c.counts),.ow none (c.recording.map AN),.ow none (List.map (slD Parcel.ds) c.saved)]
attribute [go_sem] Shot.ds_eq
theorem Shot.ds_len (c:Shot):c.ds.length=5:=by rw [Shot.ds_eq]; rfl
def Shot.dz (c:Shot):List D:=[.fz (c.taken.map AN),.fz (c.shards.map Shard.ds),.fz (List.map (slD AB) c.counts),.fz (c.recording.map AN),.fz (List.map (slD Parcel.ds) c.saved)]
@[go_sem] theorem Shot.dz_eq (c:Shot):c.dz=[.fz (c.taken.map AN),.fz (c.shards.map Shard.ds),.fz (List.map (slD AB) c.counts),.fz (c.recording.map AN),.fz (List.map (slD Parcel.ds) c.saved)] :=rfl
@[go_sem] theorem Shot.dz_er (l:List Shot):erR (l.map Shot.dz)=List.map Shot.ds l:=Ff (fun c=>by rw [Shot.ds_eq]; simp only [Shot.dz,erC,er]) l
structure Watched where
 cluster:Cluster
 shot:Shot
def Watched.ds (c:Watched):List D:=[.sl (c.cluster.grid.shards.map Shard.ds),.int .i64 c.cluster.grid.root.machine,.int .i64 c.cluster.grid.root.kind,.int .i64 c.cluster.grid.root.index,.sl (List.map (slD Parcel.ds) c.cluster.channels),.sl (List.map (slD AB) c.cluster.counts),.sl (c.cluster.sent.map AB),.sl (c.cluster.got.map AB),.sl (c.shot.taken.map AN),.sl (c.shot.shards.map Shard.ds),.sl (List.map (slD AB) c.shot.counts),.sl (c.shot.recording.map AN),.sl (List.map (slD Parcel.ds) c.shot.saved)]
theorem Watched.ds_eq (c:Watched):c.ds=[.sl (c.cluster.grid.shards.map Shard.ds),.int .i64 c.cluster.grid.root.machine,.int .i64 c.cluster.grid.root.kind,.int .i64 c.cluster.grid.root.index,.sl (List.map (slD Parcel.ds) c.cluster.channels),.sl (List.map (slD AB) c.cluster.counts),.sl (c.cluster.sent.map AB),.sl (c.cluster.got.map AB),.sl (c.shot.taken.map AN),.sl (c.shot.shards.map Shard.ds),.sl (List.map (slD AB) c.shot.counts),.sl (c.shot.recording.map AN),.sl (List.map (slD Parcel.ds) c.shot.saved)] :=rfl
@[go_sem] def Watched.avs (c:Watched):List AV:=[.ro (c.cluster.grid.shards.map Shard.ds),.int .i64 c.cluster.grid.root.machine,.int .i64 c.cluster.grid.root.kind,.int .i64 c.cluster.grid.root.index,.ro (List.map (slD Parcel.ds) c.cluster.channels),.ro (List.map (slD AB) c.cluster.counts),.ro (c.cluster.sent.map AB),.ro (c.cluster.got.map AB),.ro (c.shot.taken.map AN),.ro (c.shot.shards.map Shard.ds),.ro (List.map (slD AB) c.shot.counts),.ro (c.shot.recording.map AN),.ro (List.map (slD Parcel.ds) c.shot.saved)]
@[go_sem] def Watched.rv (c:Watched):List RV:=[.ow (some 3) (c.cluster.grid.shards.map Shard.ds),.int .i64 c.cluster.grid.root.machine,.int .i64 c.cluster.grid.root.kind,.int .i64 c.cluster.grid.root.index,.ow (some 1) (List.map (slD Parcel.ds) c.cluster.channels),.ow (some 1) (List.map (slD AB) c.cluster.counts),.ow (some 1) (c.cluster.sent.map AB),.ow (some 1) (c.cluster.got.map AB),.ow (some 1) (c.shot.taken.map AN),.ow (some 3) (c.shot.shards.map Shard.ds),.ow (some 1) (List.map (slD AB) c.shot.counts),.ow (some 1) (c.shot.recording.map AN),.ow (some 1) (List.map (slD Parcel.ds) c.shot.saved)]
@[go_sem] def Watched.rvn (c:Watched):List RV:=[.ow none (c.cluster.grid.shards.map Shard.ds),.int .i64 c.cluster.grid.root.machine,.int .i64 c.cluster.grid.root.kind,.int .i64 c.cluster.grid.root.index,.ow none (List.map (slD Parcel.ds) c.cluster.channels),.ow none (List.map (slD AB) c.cluster.counts),.ow none (c.cluster.sent.map AB),.ow none (c.cluster.got.map AB),.ow none (c.shot.taken.map AN),.ow none (c.shot.shards.map Shard.ds),.ow none (List.map (slD AB) c.shot.counts),.ow none (c.shot.recording.map AN),.ow none (List.map (slD Parcel.ds) c.shot.saved)]
attribute [go_sem] Watched.ds_eq
theorem Watched.ds_len (c:Watched):c.ds.length=13:=by rw [Watched.ds_eq]; rfl
def Watched.dz (c:Watched):List D:=[.fz (c.cluster.grid.shards.map Shard.ds),.int .i64 c.cluster.grid.root.machine,.int .i64 c.cluster.grid.root.kind,.int .i64 c.cluster.grid.root.index,.fz (List.map (slD Parcel.ds) c.cluster.channels),.fz (List.map (slD AB) c.cluster.counts),.fz (c.cluster.sent.map AB),.fz (c.cluster.got.map AB),.fz (c.shot.taken.map AN),.fz (c.shot.shards.map Shard.ds),.fz (List.map (slD AB) c.shot.counts),.fz (c.shot.recording.map AN),.fz (List.map (slD Parcel.ds) c.shot.saved)]
@[go_sem] theorem Watched.dz_eq (c:Watched):c.dz=[.fz (c.cluster.grid.shards.map Shard.ds),.int .i64 c.cluster.grid.root.machine,.int .i64 c.cluster.grid.root.kind,.int .i64 c.cluster.grid.root.index,.fz (List.map (slD Parcel.ds) c.cluster.channels),.fz (List.map (slD AB) c.cluster.counts),.fz (c.cluster.sent.map AB),.fz (c.cluster.got.map AB),.fz (c.shot.taken.map AN),.fz (c.shot.shards.map Shard.ds),.fz (List.map (slD AB) c.shot.counts),.fz (c.shot.recording.map AN),.fz (List.map (slD Parcel.ds) c.shot.saved)] :=rfl
@[go_sem] theorem Watched.dz_er (l:List Watched):erR (l.map Watched.dz)=List.map Watched.ds l:=Ff (fun c=>by rw [Watched.ds_eq]; simp only [Watched.dz,erC,er]) l
structure Service where
 watched:Watched
 good:Cluster
 shots:Int
 crashes:Int
def Service.ds (c:Service):List D:=[.sl (c.watched.cluster.grid.shards.map Shard.ds),.int .i64 c.watched.cluster.grid.root.machine,.int .i64 c.watched.cluster.grid.root.kind,.int .i64 c.watched.cluster.grid.root.index,.sl (List.map (slD Parcel.ds) c.watched.cluster.channels),.sl (List.map (slD AB) c.watched.cluster.counts),.sl (c.watched.cluster.sent.map AB),.sl (c.watched.cluster.got.map AB),.sl (c.watched.shot.taken.map AN),.sl (c.watched.shot.shards.map Shard.ds),.sl (List.map (slD AB) c.watched.shot.counts),.sl (c.watched.shot.recording.map AN),.sl (List.map (slD Parcel.ds) c.watched.shot.saved),.sl (c.good.grid.shards.map Shard.ds),.int .i64 c.good.grid.root.machine,.int .i64 c.good.grid.root.kind,.int .i64 c.good.grid.root.index,.sl (List.map (slD Parcel.ds) c.good.channels),.sl (List.map (slD AB) c.good.counts),.sl (c.good.sent.map AB),.sl (c.good.got.map AB),.int .i64 c.shots,.int .i64 c.crashes]
theorem Service.ds_eq (c:Service):c.ds=[.sl (c.watched.cluster.grid.shards.map Shard.ds),.int .i64 c.watched.cluster.grid.root.machine,.int .i64 c.watched.cluster.grid.root.kind,.int .i64 c.watched.cluster.grid.root.index,.sl (List.map (slD Parcel.ds) c.watched.cluster.channels),.sl (List.map (slD AB) c.watched.cluster.counts),.sl (c.watched.cluster.sent.map AB),.sl (c.watched.cluster.got.map AB),.sl (c.watched.shot.taken.map AN),.sl (c.watched.shot.shards.map Shard.ds),.sl (List.map (slD AB) c.watched.shot.counts),.sl (c.watched.shot.recording.map AN),.sl (List.map (slD Parcel.ds) c.watched.shot.saved),.sl (c.good.grid.shards.map Shard.ds),.int .i64 c.good.grid.root.machine,.int .i64 c.good.grid.root.kind,.int .i64 c.good.grid.root.index,.sl (List.map (slD Parcel.ds) c.good.channels),.sl (List.map (slD AB) c.good.counts),.sl (c.good.sent.map AB),.sl (c.good.got.map AB),.int .i64 c.shots,.int .i64 c.crashes] :=rfl
@[go_sem] def Service.avs (c:Service):List AV:=[.ro (c.watched.cluster.grid.shards.map Shard.ds),.int .i64 c.watched.cluster.grid.root.machine,.int .i64 c.watched.cluster.grid.root.kind,.int .i64 c.watched.cluster.grid.root.index,.ro (List.map (slD Parcel.ds) c.watched.cluster.channels),.ro (List.map (slD AB) c.watched.cluster.counts),.ro (c.watched.cluster.sent.map AB),.ro (c.watched.cluster.got.map AB),.ro (c.watched.shot.taken.map AN),.ro (c.watched.shot.shards.map Shard.ds),.ro (List.map (slD AB) c.watched.shot.counts),.ro (c.watched.shot.recording.map AN),.ro (List.map (slD Parcel.ds) c.watched.shot.saved),.ro (c.good.grid.shards.map Shard.ds),.int .i64 c.good.grid.root.machine,.int .i64 c.good.grid.root.kind,.int .i64 c.good.grid.root.index,.ro (List.map (slD Parcel.ds) c.good.channels),.ro (List.map (slD AB) c.good.counts),.ro (c.good.sent.map AB),.ro (c.good.got.map AB),.int .i64 c.shots,.int .i64 c.crashes]
@[go_sem] def Service.rv (c:Service):List RV:=[.ow (some 3) (c.watched.cluster.grid.shards.map Shard.ds),.int .i64 c.watched.cluster.grid.root.machine,.int .i64 c.watched.cluster.grid.root.kind,.int .i64 c.watched.cluster.grid.root.index,.ow (some 1) (List.map (slD Parcel.ds) c.watched.cluster.channels),.ow (some 1) (List.map (slD AB) c.watched.cluster.counts),.ow (some 1) (c.watched.cluster.sent.map AB),.ow (some 1) (c.watched.cluster.got.map AB),.ow (some 1) (c.watched.shot.taken.map AN),.ow (some 3) (c.watched.shot.shards.map Shard.ds),.ow (some 1) (List.map (slD AB) c.watched.shot.counts),.ow (some 1) (c.watched.shot.recording.map AN),.ow (some 1) (List.map (slD Parcel.ds) c.watched.shot.saved),.ow (some 3) (c.good.grid.shards.map Shard.ds),.int .i64 c.good.grid.root.machine,.int .i64 c.good.grid.root.kind,.int .i64 c.good.grid.root.index,.ow (some 1) (List.map (slD Parcel.ds) c.good.channels),.ow (some 1) (List.map (slD AB) c.good.counts),.ow (some 1) (c.good.sent.map AB),.ow (some 1) (c.good.got.map AB),.int .i64 c.shots,.int .i64 c.crashes]
@[go_sem] def Service.rvn (c:Service):List RV:=[.ow none (c.watched.cluster.grid.shards.map Shard.ds),.int .i64 c.watched.cluster.grid.root.machine,.int .i64 c.watched.cluster.grid.root.kind,.int .i64 c.watched.cluster.grid.root.index,.ow none (List.map (slD Parcel.ds) c.watched.cluster.channels),.ow none (List.map (slD AB) c.watched.cluster.counts),.ow none (c.watched.cluster.sent.map AB),.ow none (c.watched.cluster.got.map AB),.ow none (c.watched.shot.taken.map AN),.ow none (c.watched.shot.shards.map Shard.ds),.ow none (List.map (slD AB) c.watched.shot.counts),.ow none (c.watched.shot.recording.map AN),.ow none (List.map (slD Parcel.ds) c.watched.shot.saved),.ow none (c.good.grid.shards.map Shard.ds),.int .i64 c.good.grid.root.machine,.int .i64 c.good.grid.root.kind,.int .i64 c.good.grid.root.index,.ow none (List.map (slD Parcel.ds) c.good.channels),.ow none (List.map (slD AB) c.good.counts),.ow none (c.good.sent.map AB),.ow none (c.good.got.map AB),.int .i64 c.shots,.int .i64 c.crashes]
attribute [go_sem] Service.ds_eq
theorem Service.ds_len (c:Service):c.ds.length=23:=by rw [Service.ds_eq]; rfl
def Service.dz (c:Service):List D:=[.fz (c.watched.cluster.grid.shards.map Shard.ds),.int .i64 c.watched.cluster.grid.root.machine,.int .i64 c.watched.cluster.grid.root.kind,.int .i64 c.watched.cluster.grid.root.index,.fz (List.map (slD Parcel.ds) c.watched.cluster.channels),.fz (List.map (slD AB) c.watched.cluster.counts),.fz (c.watched.cluster.sent.map AB),.fz (c.watched.cluster.got.map AB),.fz (c.watched.shot.taken.map AN),.fz (c.watched.shot.shards.map Shard.ds),.fz (List.map (slD AB) c.watched.shot.counts),.fz (c.watched.shot.recording.map AN),.fz (List.map (slD Parcel.ds) c.watched.shot.saved),.fz (c.good.grid.shards.map Shard.ds),.int .i64 c.good.grid.root.machine,.int .i64 c.good.grid.root.kind,.int .i64 c.good.grid.root.index,.fz (List.map (slD Parcel.ds) c.good.channels),.fz (List.map (slD AB) c.good.counts),.fz (c.good.sent.map AB),.fz (c.good.got.map AB),.int .i64 c.shots,.int .i64 c.crashes]
@[go_sem] theorem Service.dz_eq (c:Service):c.dz=[.fz (c.watched.cluster.grid.shards.map Shard.ds),.int .i64 c.watched.cluster.grid.root.machine,.int .i64 c.watched.cluster.grid.root.kind,.int .i64 c.watched.cluster.grid.root.index,.fz (List.map (slD Parcel.ds) c.watched.cluster.channels),.fz (List.map (slD AB) c.watched.cluster.counts),.fz (c.watched.cluster.sent.map AB),.fz (c.watched.cluster.got.map AB),.fz (c.watched.shot.taken.map AN),.fz (c.watched.shot.shards.map Shard.ds),.fz (List.map (slD AB) c.watched.shot.counts),.fz (c.watched.shot.recording.map AN),.fz (List.map (slD Parcel.ds) c.watched.shot.saved),.fz (c.good.grid.shards.map Shard.ds),.int .i64 c.good.grid.root.machine,.int .i64 c.good.grid.root.kind,.int .i64 c.good.grid.root.index,.fz (List.map (slD Parcel.ds) c.good.channels),.fz (List.map (slD AB) c.good.counts),.fz (c.good.sent.map AB),.fz (c.good.got.map AB),.int .i64 c.shots,.int .i64 c.crashes] :=rfl
@[go_sem] theorem Service.dz_er (l:List Service):erR (l.map Service.dz)=List.map Service.ds l:=Ff (fun c=>by rw [Service.ds_eq]; simp only [Service.dz,erC,er]) l
def Shard.dn (c:Shard):List D:=[slN ShardCell.ds c.cells,slN ShardVar.ds c.vars,slN ShardRedex.ds c.redexes]
@[go_sem] theorem Shard.dn_eq (c:Shard):c.dn=[slN ShardCell.ds c.cells,slN ShardVar.ds c.vars,slN ShardRedex.ds c.redexes] :=rfl
def Ci (a0:Address) (a1:Address):Option (Bool):=
 (if (!decide (a0.machine=a1.machine))=true then (some false) else (if (!decide (a0.kind=a1.kind))=true then (some false) else (if (!decide (a0.index=a1.index))=true then (some false) else (some true))))
def DQ:Nat→(List Address)→(List Address)→Int→Option (Bool)
 |0,_,_,_=>none
 |n+1,a0,a1,p0_0=>(if (decide (p0_0<(a0.length:Int)))=true then ((at? a0 p0_0).bind fun v7002=>((at? a1 p0_0).bind fun v7006=>((Ci v7002 v7006).bind fun v7008=>(if (!v7008)=true then (some false) else (DQ n a0 a1 (IntKind.i64.wrap (p0_0+1))))))) else (some true))
def HK (a0:List Address) (a1:List Address):Option (Bool):=
 (if (!decide ((a0.length:Int)=(a1.length:Int)))=true then (some false) else (DQ fuel a0 a1 0))
def Eb (a0:ShardCell) (a1:ShardCell):Option (Bool):=
 (if (!decide (a0.kind=a1.kind))=true then (some false) else (if (!decide (a0.level=a1.level))=true then (some false) else (if (!decide (a0.value=a1.value))=true then (some false) else ((E5 a0.data a1.data).bind fun v8004=>(if (!v8004)=true then (some false) else ((HK a0.aux a1.aux).bind fun v10004=>(if (!v10004)=true then (some false) else (some true))))))))
def CZ:Nat→(List ShardCell)→(List ShardCell)→Int→Option (Bool)
 |0,_,_,_=>none
 |n+1,a0,a1,p0_0=>(if (decide (p0_0<(a0.length:Int)))=true then ((at? a0 p0_0).bind fun v7002=>((at? a1 p0_0).bind fun v7006=>((Eb v7002 v7006).bind fun v7008=>(if (!v7008)=true then (some false) else (CZ n a0 a1 (IntKind.i64.wrap (p0_0+1))))))) else (some true))
def Fv (a0:List ShardCell) (a1:List ShardCell):Option (Bool):=
 (if (!decide ((a0.length:Int)=(a1.length:Int)))=true then (some false) else (CZ fuel a0 a1 0))
def GH (a0:ShardVar) (a1:ShardVar):Option (Bool):=
 (if (!(a0.used == a1.used))=true then (some false) else (if (!(a0.full == a1.full))=true then (some false) else ((Ci a0.held a1.held).bind fun v6004=>(if (!v6004)=true then (some false) else (some true)))))
def Cr:Nat→(List ShardVar)→(List ShardVar)→Int→Option (Bool)
 |0,_,_,_=>none
 |n+1,a0,a1,p0_0=>(if (decide (p0_0<(a0.length:Int)))=true then ((at? a0 p0_0).bind fun v7002=>((at? a1 p0_0).bind fun v7006=>((GH v7002 v7006).bind fun v7008=>(if (!v7008)=true then (some false) else (Cr n a0 a1 (IntKind.i64.wrap (p0_0+1))))))) else (some true))
def GU (a0:List ShardVar) (a1:List ShardVar):Option (Bool):=
 (if (!decide ((a0.length:Int)=(a1.length:Int)))=true then (some false) else (Cr fuel a0 a1 0))
def Eu (a0:ShardRedex) (a1:ShardRedex):Option (Bool):=
 ((Ci a0.a a1.a).bind fun v2004=>(if (!v2004)=true then (some false) else ((Ci a0.b a1.b).bind fun v4004=>(if (!v4004)=true then (some false) else (some true)))))
def CJ:Nat→(List ShardRedex)→(List ShardRedex)→Int→Option (Bool)
 |0,_,_,_=>none
 |n+1,a0,a1,p0_0=>(if (decide (p0_0<(a0.length:Int)))=true then ((at? a0 p0_0).bind fun v7002=>((at? a1 p0_0).bind fun v7006=>((Eu v7002 v7006).bind fun v7008=>(if (!v7008)=true then (some false) else (CJ n a0 a1 (IntKind.i64.wrap (p0_0+1))))))) else (some true))
def FU (a0:List ShardRedex) (a1:List ShardRedex):Option (Bool):=
 (if (!decide ((a0.length:Int)=(a1.length:Int)))=true then (some false) else (CJ fuel a0 a1 0))
def I4 (a0:Shard) (a1:Shard):Option (Bool):=
 ((Fv a0.cells a1.cells).bind fun v2004=>(if (!v2004)=true then (some false) else ((GU a0.vars a1.vars).bind fun v4004=>(if (!v4004)=true then (some false) else ((FU a0.redexes a1.redexes).bind fun v6004=>(if (!v6004)=true then (some false) else (some true)))))))
def Ec:Nat→(List Shard)→(List Shard)→Int→Option (Bool)
 |0,_,_,_=>none
 |n+1,a0,a1,p0_0=>(if (decide (p0_0<(a0.length:Int)))=true then ((at? a0 p0_0).bind fun v7002=>((at? a1 p0_0).bind fun v7006=>((I4 v7002 v7006).bind fun v7008=>(if (!v7008)=true then (some false) else (Ec n a0 a1 (IntKind.i64.wrap (p0_0+1))))))) else (some true))
def Ht (a0:List Shard) (a1:List Shard):Option (Bool):=
 (if (!decide ((a0.length:Int)=(a1.length:Int)))=true then (some false) else (Ec fuel a0 a1 0))
def Lt (a0:Grid) (a1:Grid):Option (Bool):=
 ((Ht a0.shards a1.shards).bind fun v2004=>(if (!v2004)=true then (some false) else ((Ci a0.root a1.root).bind fun v4004=>(if (!v4004)=true then (some false) else (some true)))))
def Hu (a0:Parcel) (a1:Parcel):Option (Bool):=
 (if (!decide (a0.kind=a1.kind))=true then (some false) else ((Eb a0.cell a1.cell).bind fun v4004=>(if (!v4004)=true then (some false) else ((Ci a0.a a1.a).bind fun v6004=>(if (!v6004)=true then (some false) else ((Ci a0.b a1.b).bind fun v8004=>(if (!v8004)=true then (some false) else (some true))))))))
def Dw:Nat→(List Parcel)→(List Parcel)→Int→Option (Bool)
 |0,_,_,_=>none
 |n+1,a0,a1,p0_0=>(if (decide (p0_0<(a0.length:Int)))=true then ((at? a0 p0_0).bind fun v7002=>((at? a1 p0_0).bind fun v7006=>((Hu v7002 v7006).bind fun v7008=>(if (!v7008)=true then (some false) else (Dw n a0 a1 (IntKind.i64.wrap (p0_0+1))))))) else (some true))
def G3 (a0:List Parcel) (a1:List Parcel):Option (Bool):=
 (if (!decide ((a0.length:Int)=(a1.length:Int)))=true then (some false) else (Dw fuel a0 a1 0))
def DR:Nat→(List (List Parcel))→(List (List Parcel))→Int→Option (Bool)
 |0,_,_,_=>none
 |n+1,a0,a1,p0_0=>(if (decide (p0_0<(a0.length:Int)))=true then ((at? a0 p0_0).bind fun v7002=>((at? a1 p0_0).bind fun v7006=>((G3 v7002 v7006).bind fun v7008=>(if (!v7008)=true then (some false) else (DR n a0 a1 (IntKind.i64.wrap (p0_0+1))))))) else (some true))
def GI (a0:List (List Parcel)) (a1:List (List Parcel)):Option (Bool):=
 (if (!decide ((a0.length:Int)=(a1.length:Int)))=true then (some false) else (DR fuel a0 a1 0))
def Dx:Nat→(List (List Int))→(List (List Int))→Int→Option (Bool)
 |0,_,_,_=>none
 |n+1,a0,a1,p0_0=>(if (decide (p0_0<(a0.length:Int)))=true then ((at? a0 p0_0).bind fun v7002=>((at? a1 p0_0).bind fun v7006=>((E5 v7002 v7006).bind fun v7008=>(if (!v7008)=true then (some false) else (Dx n a0 a1 (IntKind.i64.wrap (p0_0+1))))))) else (some true))
def G4 (a0:List (List Int)) (a1:List (List Int)):Option (Bool):=
 (if (!decide ((a0.length:Int)=(a1.length:Int)))=true then (some false) else (Dx fuel a0 a1 0))
def G5 (a0:Cluster) (a1:Cluster):Option (Bool):=
 ((Lt a0.grid a1.grid).bind fun v2004=>(if (!v2004)=true then (some false) else ((GI a0.channels a1.channels).bind fun v4004=>(if (!v4004)=true then (some false) else ((G4 a0.counts a1.counts).bind fun v6004=>(if (!v6004)=true then (some false) else ((E5 a0.sent a1.sent).bind fun v8004=>(if (!v8004)=true then (some false) else ((E5 a0.got a1.got).bind fun v10004=>(if (!v10004)=true then (some false) else (some true)))))))))))
def FH:Nat→(List Bool)→(List Bool)→Int→Option (Bool)
 |0,_,_,_=>none
 |n+1,a0,a1,p0_0=>(if (decide (p0_0<(a0.length:Int)))=true then ((at? a0 p0_0).bind fun v7002=>((at? a1 p0_0).bind fun v7006=>(if (!(v7002 == v7006))=true then (some false) else (FH n a0 a1 (IntKind.i64.wrap (p0_0+1)))))) else (some true))
def I5 (a0:List Bool) (a1:List Bool):Option (Bool):=
 (if (!decide ((a0.length:Int)=(a1.length:Int)))=true then (some false) else (FH fuel a0 a1 0))
def Lu (a0:Shot) (a1:Shot):Option (Bool):=
 ((I5 a0.taken a1.taken).bind fun v2004=>(if (!v2004)=true then (some false) else ((Ht a0.shards a1.shards).bind fun v4004=>(if (!v4004)=true then (some false) else ((G4 a0.counts a1.counts).bind fun v6004=>(if (!v6004)=true then (some false) else ((I5 a0.recording a1.recording).bind fun v8004=>(if (!v8004)=true then (some false) else ((GI a0.saved a1.saved).bind fun v10004=>(if (!v10004)=true then (some false) else (some true)))))))))))
def II (a0:Watched) (a1:Watched):Option (Bool):=
 ((G5 a0.cluster a1.cluster).bind fun v2004=>(if (!v2004)=true then (some false) else ((Lu a0.shot a1.shot).bind fun v4004=>(if (!v4004)=true then (some false) else (some true)))))
def G2 (a0:Service) (a1:Service):Option (Bool):=
 ((II a0.watched a1.watched).bind fun v2004=>(if (!v2004)=true then (some false) else ((G5 a0.good a1.good).bind fun v4004=>(if (!v4004)=true then (some false) else (if (!decide (a0.shots=a1.shots))=true then (some false) else (if (!decide (a0.crashes=a1.crashes))=true then (some false) else (some true)))))))
end Go.Proofs.YtclmbjbbojdojaaGreat.Ab
