/-
  Data of the program as Lean types; how they lie in memory. Printed by wip/ab/gen.py.
-/
import Derived.Test.YtffokcfdkkikmaaAbY
import Derived.Test.YtffokcfdkkikmaaMTy
namespace Go.Proofs.Ytffokcfdkkikmaa.Ab
set_option linter.unusedVariables false
set_option linter.unusedSimpArgs false
set_option maxRecDepth 20000
set_option maxHeartbeats 4000000
open Go.RowKit

structure Address where
  machine : Int
  kind : Int
  index : Int
def Address.ds (c : Address) : List D := [.int .i64 c.machine, .int .i64 c.kind, .int .i64 c.index]
theorem Address.ds_eq (c : Address) : c.ds = [.int .i64 c.machine, .int .i64 c.kind, .int .i64 c.index] := rfl
@[go_sem] def Address.avs (c : Address) : List AV := [.int .i64 c.machine, .int .i64 c.kind, .int .i64 c.index]
@[go_sem] def Address.rv (c : Address) : List RV := [.int .i64 c.machine, .int .i64 c.kind, .int .i64 c.index]
@[go_sem] def Address.rvn (c : Address) : List RV := [.int .i64 c.machine, .int .i64 c.kind, .int .i64 c.index]
attribute [go_sem] Address.ds_eq
theorem Address.ds_len (c : Address) : c.ds.length = 3 := by rw [Address.ds_eq]; rfl
structure ShardCell where
  kind : Int
  level : Int
  value : Int
  data : List Int
  aux : List Address
def ShardCell.ds (c : ShardCell) : List D := [.int .i64 c.kind, .int .i64 c.level, .int .i64 c.value, .sl (List.map i64D c.data), .sl (List.map Address.ds c.aux)]
theorem ShardCell.ds_eq (c : ShardCell) : c.ds = [.int .i64 c.kind, .int .i64 c.level, .int .i64 c.value, .sl (List.map i64D c.data), .sl (List.map Address.ds c.aux)] := rfl
@[go_sem] def ShardCell.avs (c : ShardCell) : List AV := [.int .i64 c.kind, .int .i64 c.level, .int .i64 c.value, .ro (List.map i64D c.data), .ro (List.map Address.ds c.aux)]
@[go_sem] def ShardCell.rv (c : ShardCell) : List RV := [.int .i64 c.kind, .int .i64 c.level, .int .i64 c.value, .ow (some 1) (List.map i64D c.data), .ow (some 3) (List.map Address.ds c.aux)]
@[go_sem] def ShardCell.rvn (c : ShardCell) : List RV := [.int .i64 c.kind, .int .i64 c.level, .int .i64 c.value, .ow none (List.map i64D c.data), .ow none (List.map Address.ds c.aux)]
attribute [go_sem] ShardCell.ds_eq
theorem ShardCell.ds_len (c : ShardCell) : c.ds.length = 5 := by rw [ShardCell.ds_eq]; rfl
structure ShardVar where
  used : Bool
  full : Bool
  held : Address
def ShardVar.ds (c : ShardVar) : List D := [.bool c.used, .bool c.full, .int .i64 c.held.machine, .int .i64 c.held.kind, .int .i64 c.held.index]
theorem ShardVar.ds_eq (c : ShardVar) : c.ds = [.bool c.used, .bool c.full, .int .i64 c.held.machine, .int .i64 c.held.kind, .int .i64 c.held.index] := rfl
@[go_sem] def ShardVar.avs (c : ShardVar) : List AV := [.bool c.used, .bool c.full, .int .i64 c.held.machine, .int .i64 c.held.kind, .int .i64 c.held.index]
@[go_sem] def ShardVar.rv (c : ShardVar) : List RV := [.bool c.used, .bool c.full, .int .i64 c.held.machine, .int .i64 c.held.kind, .int .i64 c.held.index]
@[go_sem] def ShardVar.rvn (c : ShardVar) : List RV := [.bool c.used, .bool c.full, .int .i64 c.held.machine, .int .i64 c.held.kind, .int .i64 c.held.index]
attribute [go_sem] ShardVar.ds_eq
theorem ShardVar.ds_len (c : ShardVar) : c.ds.length = 5 := by rw [ShardVar.ds_eq]; rfl
structure ShardRedex where
  a : Address
  b : Address
def ShardRedex.ds (c : ShardRedex) : List D := [.int .i64 c.a.machine, .int .i64 c.a.kind, .int .i64 c.a.index, .int .i64 c.b.machine, .int .i64 c.b.kind, .int .i64 c.b.index]
theorem ShardRedex.ds_eq (c : ShardRedex) : c.ds = [.int .i64 c.a.machine, .int .i64 c.a.kind, .int .i64 c.a.index, .int .i64 c.b.machine, .int .i64 c.b.kind, .int .i64 c.b.index] := rfl
@[go_sem] def ShardRedex.avs (c : ShardRedex) : List AV := [.int .i64 c.a.machine, .int .i64 c.a.kind, .int .i64 c.a.index, .int .i64 c.b.machine, .int .i64 c.b.kind, .int .i64 c.b.index]
@[go_sem] def ShardRedex.rv (c : ShardRedex) : List RV := [.int .i64 c.a.machine, .int .i64 c.a.kind, .int .i64 c.a.index, .int .i64 c.b.machine, .int .i64 c.b.kind, .int .i64 c.b.index]
@[go_sem] def ShardRedex.rvn (c : ShardRedex) : List RV := [.int .i64 c.a.machine, .int .i64 c.a.kind, .int .i64 c.a.index, .int .i64 c.b.machine, .int .i64 c.b.kind, .int .i64 c.b.index]
attribute [go_sem] ShardRedex.ds_eq
theorem ShardRedex.ds_len (c : ShardRedex) : c.ds.length = 6 := by rw [ShardRedex.ds_eq]; rfl
structure Shard where
  cells : List ShardCell
  vars : List ShardVar
  redexes : List ShardRedex
def Shard.ds (c : Shard) : List D := [.sl (List.map ShardCell.ds c.cells), .sl (List.map ShardVar.ds c.vars), .sl (List.map ShardRedex.ds c.redexes)]
theorem Shard.ds_eq (c : Shard) : c.ds = [.sl (List.map ShardCell.ds c.cells), .sl (List.map ShardVar.ds c.vars), .sl (List.map ShardRedex.ds c.redexes)] := rfl
@[go_sem] def Shard.avs (c : Shard) : List AV := [.ro (List.map ShardCell.ds c.cells), .ro (List.map ShardVar.ds c.vars), .ro (List.map ShardRedex.ds c.redexes)]
@[go_sem] def Shard.rv (c : Shard) : List RV := [.ow (some 5) (List.map ShardCell.ds c.cells), .ow (some 5) (List.map ShardVar.ds c.vars), .ow (some 6) (List.map ShardRedex.ds c.redexes)]
@[go_sem] def Shard.rvn (c : Shard) : List RV := [.ow none (List.map ShardCell.ds c.cells), .ow none (List.map ShardVar.ds c.vars), .ow none (List.map ShardRedex.ds c.redexes)]
attribute [go_sem] Shard.ds_eq
theorem Shard.ds_len (c : Shard) : c.ds.length = 3 := by rw [Shard.ds_eq]; rfl
structure Grid where
  shards : List Shard
  root : Address
def Grid.ds (c : Grid) : List D := [.sl (List.map Shard.ds c.shards), .int .i64 c.root.machine, .int .i64 c.root.kind, .int .i64 c.root.index]
theorem Grid.ds_eq (c : Grid) : c.ds = [.sl (List.map Shard.ds c.shards), .int .i64 c.root.machine, .int .i64 c.root.kind, .int .i64 c.root.index] := rfl
@[go_sem] def Grid.avs (c : Grid) : List AV := [.ro (List.map Shard.ds c.shards), .int .i64 c.root.machine, .int .i64 c.root.kind, .int .i64 c.root.index]
@[go_sem] def Grid.rv (c : Grid) : List RV := [.ow (some 3) (List.map Shard.ds c.shards), .int .i64 c.root.machine, .int .i64 c.root.kind, .int .i64 c.root.index]
@[go_sem] def Grid.rvn (c : Grid) : List RV := [.ow none (List.map Shard.ds c.shards), .int .i64 c.root.machine, .int .i64 c.root.kind, .int .i64 c.root.index]
attribute [go_sem] Grid.ds_eq
theorem Grid.ds_len (c : Grid) : c.ds.length = 4 := by rw [Grid.ds_eq]; rfl
structure Parcel where
  kind : Int
  cell : ShardCell
  a : Address
  b : Address
def Parcel.ds (c : Parcel) : List D := [.int .i64 c.kind, .int .i64 c.cell.kind, .int .i64 c.cell.level, .int .i64 c.cell.value, .sl (List.map i64D c.cell.data), .sl (List.map Address.ds c.cell.aux), .int .i64 c.a.machine, .int .i64 c.a.kind, .int .i64 c.a.index, .int .i64 c.b.machine, .int .i64 c.b.kind, .int .i64 c.b.index]
theorem Parcel.ds_eq (c : Parcel) : c.ds = [.int .i64 c.kind, .int .i64 c.cell.kind, .int .i64 c.cell.level, .int .i64 c.cell.value, .sl (List.map i64D c.cell.data), .sl (List.map Address.ds c.cell.aux), .int .i64 c.a.machine, .int .i64 c.a.kind, .int .i64 c.a.index, .int .i64 c.b.machine, .int .i64 c.b.kind, .int .i64 c.b.index] := rfl
@[go_sem] def Parcel.avs (c : Parcel) : List AV := [.int .i64 c.kind, .int .i64 c.cell.kind, .int .i64 c.cell.level, .int .i64 c.cell.value, .ro (List.map i64D c.cell.data), .ro (List.map Address.ds c.cell.aux), .int .i64 c.a.machine, .int .i64 c.a.kind, .int .i64 c.a.index, .int .i64 c.b.machine, .int .i64 c.b.kind, .int .i64 c.b.index]
@[go_sem] def Parcel.rv (c : Parcel) : List RV := [.int .i64 c.kind, .int .i64 c.cell.kind, .int .i64 c.cell.level, .int .i64 c.cell.value, .ow (some 1) (List.map i64D c.cell.data), .ow (some 3) (List.map Address.ds c.cell.aux), .int .i64 c.a.machine, .int .i64 c.a.kind, .int .i64 c.a.index, .int .i64 c.b.machine, .int .i64 c.b.kind, .int .i64 c.b.index]
@[go_sem] def Parcel.rvn (c : Parcel) : List RV := [.int .i64 c.kind, .int .i64 c.cell.kind, .int .i64 c.cell.level, .int .i64 c.cell.value, .ow none (List.map i64D c.cell.data), .ow none (List.map Address.ds c.cell.aux), .int .i64 c.a.machine, .int .i64 c.a.kind, .int .i64 c.a.index, .int .i64 c.b.machine, .int .i64 c.b.kind, .int .i64 c.b.index]
attribute [go_sem] Parcel.ds_eq
theorem Parcel.ds_len (c : Parcel) : c.ds.length = 12 := by rw [Parcel.ds_eq]; rfl
structure Cluster where
  grid : Grid
  channels : List (List Parcel)
  counts : List (List Int)
  sent : List Int
  got : List Int
def Cluster.ds (c : Cluster) : List D := [.sl (List.map Shard.ds c.grid.shards), .int .i64 c.grid.root.machine, .int .i64 c.grid.root.kind, .int .i64 c.grid.root.index, .sl (List.map (slD Parcel.ds) c.channels), .sl (List.map (slD i64D) c.counts), .sl (List.map i64D c.sent), .sl (List.map i64D c.got)]
theorem Cluster.ds_eq (c : Cluster) : c.ds = [.sl (List.map Shard.ds c.grid.shards), .int .i64 c.grid.root.machine, .int .i64 c.grid.root.kind, .int .i64 c.grid.root.index, .sl (List.map (slD Parcel.ds) c.channels), .sl (List.map (slD i64D) c.counts), .sl (List.map i64D c.sent), .sl (List.map i64D c.got)] := rfl
@[go_sem] def Cluster.avs (c : Cluster) : List AV := [.ro (List.map Shard.ds c.grid.shards), .int .i64 c.grid.root.machine, .int .i64 c.grid.root.kind, .int .i64 c.grid.root.index, .ro (List.map (slD Parcel.ds) c.channels), .ro (List.map (slD i64D) c.counts), .ro (List.map i64D c.sent), .ro (List.map i64D c.got)]
@[go_sem] def Cluster.rv (c : Cluster) : List RV := [.ow (some 3) (List.map Shard.ds c.grid.shards), .int .i64 c.grid.root.machine, .int .i64 c.grid.root.kind, .int .i64 c.grid.root.index, .ow (some 1) (List.map (slD Parcel.ds) c.channels), .ow (some 1) (List.map (slD i64D) c.counts), .ow (some 1) (List.map i64D c.sent), .ow (some 1) (List.map i64D c.got)]
@[go_sem] def Cluster.rvn (c : Cluster) : List RV := [.ow none (List.map Shard.ds c.grid.shards), .int .i64 c.grid.root.machine, .int .i64 c.grid.root.kind, .int .i64 c.grid.root.index, .ow none (List.map (slD Parcel.ds) c.channels), .ow none (List.map (slD i64D) c.counts), .ow none (List.map i64D c.sent), .ow none (List.map i64D c.got)]
attribute [go_sem] Cluster.ds_eq
theorem Cluster.ds_len (c : Cluster) : c.ds.length = 8 := by rw [Cluster.ds_eq]; rfl
structure Shot where
  taken : List Bool
  shards : List Shard
  counts : List (List Int)
  recording : List Bool
  saved : List (List Parcel)
def Shot.ds (c : Shot) : List D := [.sl (List.map boolD c.taken), .sl (List.map Shard.ds c.shards), .sl (List.map (slD i64D) c.counts), .sl (List.map boolD c.recording), .sl (List.map (slD Parcel.ds) c.saved)]
theorem Shot.ds_eq (c : Shot) : c.ds = [.sl (List.map boolD c.taken), .sl (List.map Shard.ds c.shards), .sl (List.map (slD i64D) c.counts), .sl (List.map boolD c.recording), .sl (List.map (slD Parcel.ds) c.saved)] := rfl
@[go_sem] def Shot.avs (c : Shot) : List AV := [.ro (List.map boolD c.taken), .ro (List.map Shard.ds c.shards), .ro (List.map (slD i64D) c.counts), .ro (List.map boolD c.recording), .ro (List.map (slD Parcel.ds) c.saved)]
@[go_sem] def Shot.rv (c : Shot) : List RV := [.ow (some 1) (List.map boolD c.taken), .ow (some 3) (List.map Shard.ds c.shards), .ow (some 1) (List.map (slD i64D) c.counts), .ow (some 1) (List.map boolD c.recording), .ow (some 1) (List.map (slD Parcel.ds) c.saved)]
@[go_sem] def Shot.rvn (c : Shot) : List RV := [.ow none (List.map boolD c.taken), .ow none (List.map Shard.ds c.shards), .ow none (List.map (slD i64D) c.counts), .ow none (List.map boolD c.recording), .ow none (List.map (slD Parcel.ds) c.saved)]
attribute [go_sem] Shot.ds_eq
theorem Shot.ds_len (c : Shot) : c.ds.length = 5 := by rw [Shot.ds_eq]; rfl
structure Watched where
  cluster : Cluster
  shot : Shot
def Watched.ds (c : Watched) : List D := [.sl (List.map Shard.ds c.cluster.grid.shards), .int .i64 c.cluster.grid.root.machine, .int .i64 c.cluster.grid.root.kind, .int .i64 c.cluster.grid.root.index, .sl (List.map (slD Parcel.ds) c.cluster.channels), .sl (List.map (slD i64D) c.cluster.counts), .sl (List.map i64D c.cluster.sent), .sl (List.map i64D c.cluster.got), .sl (List.map boolD c.shot.taken), .sl (List.map Shard.ds c.shot.shards), .sl (List.map (slD i64D) c.shot.counts), .sl (List.map boolD c.shot.recording), .sl (List.map (slD Parcel.ds) c.shot.saved)]
theorem Watched.ds_eq (c : Watched) : c.ds = [.sl (List.map Shard.ds c.cluster.grid.shards), .int .i64 c.cluster.grid.root.machine, .int .i64 c.cluster.grid.root.kind, .int .i64 c.cluster.grid.root.index, .sl (List.map (slD Parcel.ds) c.cluster.channels), .sl (List.map (slD i64D) c.cluster.counts), .sl (List.map i64D c.cluster.sent), .sl (List.map i64D c.cluster.got), .sl (List.map boolD c.shot.taken), .sl (List.map Shard.ds c.shot.shards), .sl (List.map (slD i64D) c.shot.counts), .sl (List.map boolD c.shot.recording), .sl (List.map (slD Parcel.ds) c.shot.saved)] := rfl
@[go_sem] def Watched.avs (c : Watched) : List AV := [.ro (List.map Shard.ds c.cluster.grid.shards), .int .i64 c.cluster.grid.root.machine, .int .i64 c.cluster.grid.root.kind, .int .i64 c.cluster.grid.root.index, .ro (List.map (slD Parcel.ds) c.cluster.channels), .ro (List.map (slD i64D) c.cluster.counts), .ro (List.map i64D c.cluster.sent), .ro (List.map i64D c.cluster.got), .ro (List.map boolD c.shot.taken), .ro (List.map Shard.ds c.shot.shards), .ro (List.map (slD i64D) c.shot.counts), .ro (List.map boolD c.shot.recording), .ro (List.map (slD Parcel.ds) c.shot.saved)]
@[go_sem] def Watched.rv (c : Watched) : List RV := [.ow (some 3) (List.map Shard.ds c.cluster.grid.shards), .int .i64 c.cluster.grid.root.machine, .int .i64 c.cluster.grid.root.kind, .int .i64 c.cluster.grid.root.index, .ow (some 1) (List.map (slD Parcel.ds) c.cluster.channels), .ow (some 1) (List.map (slD i64D) c.cluster.counts), .ow (some 1) (List.map i64D c.cluster.sent), .ow (some 1) (List.map i64D c.cluster.got), .ow (some 1) (List.map boolD c.shot.taken), .ow (some 3) (List.map Shard.ds c.shot.shards), .ow (some 1) (List.map (slD i64D) c.shot.counts), .ow (some 1) (List.map boolD c.shot.recording), .ow (some 1) (List.map (slD Parcel.ds) c.shot.saved)]
@[go_sem] def Watched.rvn (c : Watched) : List RV := [.ow none (List.map Shard.ds c.cluster.grid.shards), .int .i64 c.cluster.grid.root.machine, .int .i64 c.cluster.grid.root.kind, .int .i64 c.cluster.grid.root.index, .ow none (List.map (slD Parcel.ds) c.cluster.channels), .ow none (List.map (slD i64D) c.cluster.counts), .ow none (List.map i64D c.cluster.sent), .ow none (List.map i64D c.cluster.got), .ow none (List.map boolD c.shot.taken), .ow none (List.map Shard.ds c.shot.shards), .ow none (List.map (slD i64D) c.shot.counts), .ow none (List.map boolD c.shot.recording), .ow none (List.map (slD Parcel.ds) c.shot.saved)]
attribute [go_sem] Watched.ds_eq
theorem Watched.ds_len (c : Watched) : c.ds.length = 13 := by rw [Watched.ds_eq]; rfl
structure Service where
  watched : Watched
  good : Cluster
  shots : Int
  crashes : Int
def Service.ds (c : Service) : List D := [.sl (List.map Shard.ds c.watched.cluster.grid.shards), .int .i64 c.watched.cluster.grid.root.machine, .int .i64 c.watched.cluster.grid.root.kind, .int .i64 c.watched.cluster.grid.root.index, .sl (List.map (slD Parcel.ds) c.watched.cluster.channels), .sl (List.map (slD i64D) c.watched.cluster.counts), .sl (List.map i64D c.watched.cluster.sent), .sl (List.map i64D c.watched.cluster.got), .sl (List.map boolD c.watched.shot.taken), .sl (List.map Shard.ds c.watched.shot.shards), .sl (List.map (slD i64D) c.watched.shot.counts), .sl (List.map boolD c.watched.shot.recording), .sl (List.map (slD Parcel.ds) c.watched.shot.saved), .sl (List.map Shard.ds c.good.grid.shards), .int .i64 c.good.grid.root.machine, .int .i64 c.good.grid.root.kind, .int .i64 c.good.grid.root.index, .sl (List.map (slD Parcel.ds) c.good.channels), .sl (List.map (slD i64D) c.good.counts), .sl (List.map i64D c.good.sent), .sl (List.map i64D c.good.got), .int .i64 c.shots, .int .i64 c.crashes]
theorem Service.ds_eq (c : Service) : c.ds = [.sl (List.map Shard.ds c.watched.cluster.grid.shards), .int .i64 c.watched.cluster.grid.root.machine, .int .i64 c.watched.cluster.grid.root.kind, .int .i64 c.watched.cluster.grid.root.index, .sl (List.map (slD Parcel.ds) c.watched.cluster.channels), .sl (List.map (slD i64D) c.watched.cluster.counts), .sl (List.map i64D c.watched.cluster.sent), .sl (List.map i64D c.watched.cluster.got), .sl (List.map boolD c.watched.shot.taken), .sl (List.map Shard.ds c.watched.shot.shards), .sl (List.map (slD i64D) c.watched.shot.counts), .sl (List.map boolD c.watched.shot.recording), .sl (List.map (slD Parcel.ds) c.watched.shot.saved), .sl (List.map Shard.ds c.good.grid.shards), .int .i64 c.good.grid.root.machine, .int .i64 c.good.grid.root.kind, .int .i64 c.good.grid.root.index, .sl (List.map (slD Parcel.ds) c.good.channels), .sl (List.map (slD i64D) c.good.counts), .sl (List.map i64D c.good.sent), .sl (List.map i64D c.good.got), .int .i64 c.shots, .int .i64 c.crashes] := rfl
@[go_sem] def Service.avs (c : Service) : List AV := [.ro (List.map Shard.ds c.watched.cluster.grid.shards), .int .i64 c.watched.cluster.grid.root.machine, .int .i64 c.watched.cluster.grid.root.kind, .int .i64 c.watched.cluster.grid.root.index, .ro (List.map (slD Parcel.ds) c.watched.cluster.channels), .ro (List.map (slD i64D) c.watched.cluster.counts), .ro (List.map i64D c.watched.cluster.sent), .ro (List.map i64D c.watched.cluster.got), .ro (List.map boolD c.watched.shot.taken), .ro (List.map Shard.ds c.watched.shot.shards), .ro (List.map (slD i64D) c.watched.shot.counts), .ro (List.map boolD c.watched.shot.recording), .ro (List.map (slD Parcel.ds) c.watched.shot.saved), .ro (List.map Shard.ds c.good.grid.shards), .int .i64 c.good.grid.root.machine, .int .i64 c.good.grid.root.kind, .int .i64 c.good.grid.root.index, .ro (List.map (slD Parcel.ds) c.good.channels), .ro (List.map (slD i64D) c.good.counts), .ro (List.map i64D c.good.sent), .ro (List.map i64D c.good.got), .int .i64 c.shots, .int .i64 c.crashes]
@[go_sem] def Service.rv (c : Service) : List RV := [.ow (some 3) (List.map Shard.ds c.watched.cluster.grid.shards), .int .i64 c.watched.cluster.grid.root.machine, .int .i64 c.watched.cluster.grid.root.kind, .int .i64 c.watched.cluster.grid.root.index, .ow (some 1) (List.map (slD Parcel.ds) c.watched.cluster.channels), .ow (some 1) (List.map (slD i64D) c.watched.cluster.counts), .ow (some 1) (List.map i64D c.watched.cluster.sent), .ow (some 1) (List.map i64D c.watched.cluster.got), .ow (some 1) (List.map boolD c.watched.shot.taken), .ow (some 3) (List.map Shard.ds c.watched.shot.shards), .ow (some 1) (List.map (slD i64D) c.watched.shot.counts), .ow (some 1) (List.map boolD c.watched.shot.recording), .ow (some 1) (List.map (slD Parcel.ds) c.watched.shot.saved), .ow (some 3) (List.map Shard.ds c.good.grid.shards), .int .i64 c.good.grid.root.machine, .int .i64 c.good.grid.root.kind, .int .i64 c.good.grid.root.index, .ow (some 1) (List.map (slD Parcel.ds) c.good.channels), .ow (some 1) (List.map (slD i64D) c.good.counts), .ow (some 1) (List.map i64D c.good.sent), .ow (some 1) (List.map i64D c.good.got), .int .i64 c.shots, .int .i64 c.crashes]
@[go_sem] def Service.rvn (c : Service) : List RV := [.ow none (List.map Shard.ds c.watched.cluster.grid.shards), .int .i64 c.watched.cluster.grid.root.machine, .int .i64 c.watched.cluster.grid.root.kind, .int .i64 c.watched.cluster.grid.root.index, .ow none (List.map (slD Parcel.ds) c.watched.cluster.channels), .ow none (List.map (slD i64D) c.watched.cluster.counts), .ow none (List.map i64D c.watched.cluster.sent), .ow none (List.map i64D c.watched.cluster.got), .ow none (List.map boolD c.watched.shot.taken), .ow none (List.map Shard.ds c.watched.shot.shards), .ow none (List.map (slD i64D) c.watched.shot.counts), .ow none (List.map boolD c.watched.shot.recording), .ow none (List.map (slD Parcel.ds) c.watched.shot.saved), .ow none (List.map Shard.ds c.good.grid.shards), .int .i64 c.good.grid.root.machine, .int .i64 c.good.grid.root.kind, .int .i64 c.good.grid.root.index, .ow none (List.map (slD Parcel.ds) c.good.channels), .ow none (List.map (slD i64D) c.good.counts), .ow none (List.map i64D c.good.sent), .ow none (List.map i64D c.good.got), .int .i64 c.shots, .int .i64 c.crashes]
attribute [go_sem] Service.ds_eq
theorem Service.ds_len (c : Service) : c.ds.length = 23 := by rw [Service.ds_eq]; rfl
end Go.Proofs.Ytffokcfdkkikmaa.Ab
