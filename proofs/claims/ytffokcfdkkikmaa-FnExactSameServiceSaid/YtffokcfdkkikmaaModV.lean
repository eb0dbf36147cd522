/-
  Models of the functions. Printed by wip/ab/gen.py.
-/
import Derived.Test.YtffokcfdkkikmaaMTyV
import Derived.Test.YtffokcfdkkikmaaMod
namespace Go.Proofs.Ytffokcfdkkikmaa.Ab
set_option linter.unusedVariables false
set_option linter.unusedSimpArgs false
set_option maxRecDepth 20000
set_option maxHeartbeats 4000000
open Go.RowKit

def l_szAddressS (a0 : List Address) (a1 : Int) : Option (Int) :=
  (if (decide ((IntKind.i64.wrap (a1 - ((List.length a0 : Nat) : Int))) < 0)) = true then (some (-1)) else (some (IntKind.i64.wrap (a1 - ((List.length a0 : Nat) : Int)))))
def l_szShardCell (a0 : ShardCell) (a1 : Int) : Option (Int) :=
  (Option.bind (l_szInt64S a0.data a1) fun v2003 => (if (decide (v2003 < 0)) = true then (some (-1)) else (Option.bind (l_szAddressS a0.aux v2003) fun v5003 => (if (decide (v5003 < 0)) = true then (some (-1)) else (some v5003)))))
def l_szShardCellS_l1 : Nat → (List ShardCell) → Int → Int → Option (Int)
  | 0, _, _, _ => none
  | n + 1, a0, p0_0, p0_1 => (if (decide (p0_1 < ((List.length a0 : Nat) : Int))) = true then (Option.bind (at? a0 p0_1) fun v8002 => (Option.bind (l_szShardCell v8002 p0_0) fun v8005 => (if (decide (v8005 < 0)) = true then (some (-1)) else (l_szShardCellS_l1 n a0 v8005 (IntKind.i64.wrap (p0_1 + 1)))))) else (some p0_0))
def l_szShardCellS (a0 : List ShardCell) (a1 : Int) : Option (Int) :=
  (if (decide ((IntKind.i64.wrap (a1 - ((List.length a0 : Nat) : Int))) < 0)) = true then (some (-1)) else (l_szShardCellS_l1 fuel a0 (IntKind.i64.wrap (a1 - ((List.length a0 : Nat) : Int))) 0))
def l_szShardVarS (a0 : List ShardVar) (a1 : Int) : Option (Int) :=
  (if (decide ((IntKind.i64.wrap (a1 - ((List.length a0 : Nat) : Int))) < 0)) = true then (some (-1)) else (some (IntKind.i64.wrap (a1 - ((List.length a0 : Nat) : Int)))))
def l_szShardRedexS (a0 : List ShardRedex) (a1 : Int) : Option (Int) :=
  (if (decide ((IntKind.i64.wrap (a1 - ((List.length a0 : Nat) : Int))) < 0)) = true then (some (-1)) else (some (IntKind.i64.wrap (a1 - ((List.length a0 : Nat) : Int)))))
def l_szShard (a0 : Shard) (a1 : Int) : Option (Int) :=
  (Option.bind (l_szShardCellS a0.cells a1) fun v2003 => (if (decide (v2003 < 0)) = true then (some (-1)) else (Option.bind (l_szShardVarS a0.vars v2003) fun v5003 => (if (decide (v5003 < 0)) = true then (some (-1)) else (Option.bind (l_szShardRedexS a0.redexes v5003) fun v8003 => (if (decide (v8003 < 0)) = true then (some (-1)) else (some v8003)))))))
def l_szShardS_l1 : Nat → (List Shard) → Int → Int → Option (Int)
  | 0, _, _, _ => none
  | n + 1, a0, p0_0, p0_1 => (if (decide (p0_1 < ((List.length a0 : Nat) : Int))) = true then (Option.bind (at? a0 p0_1) fun v8002 => (Option.bind (l_szShard v8002 p0_0) fun v8005 => (if (decide (v8005 < 0)) = true then (some (-1)) else (l_szShardS_l1 n a0 v8005 (IntKind.i64.wrap (p0_1 + 1)))))) else (some p0_0))
def l_szShardS (a0 : List Shard) (a1 : Int) : Option (Int) :=
  (if (decide ((IntKind.i64.wrap (a1 - ((List.length a0 : Nat) : Int))) < 0)) = true then (some (-1)) else (l_szShardS_l1 fuel a0 (IntKind.i64.wrap (a1 - ((List.length a0 : Nat) : Int))) 0))
def l_szGrid (a0 : Grid) (a1 : Int) : Option (Int) :=
  (Option.bind (l_szShardS a0.shards a1) fun v2003 => (if (decide (v2003 < 0)) = true then (some (-1)) else (some v2003)))
def l_szParcel (a0 : Parcel) (a1 : Int) : Option (Int) :=
  (Option.bind (l_szShardCell a0.cell a1) fun v2003 => (if (decide (v2003 < 0)) = true then (some (-1)) else (some v2003)))
def l_szParcelS_l1 : Nat → (List Parcel) → Int → Int → Option (Int)
  | 0, _, _, _ => none
  | n + 1, a0, p0_0, p0_1 => (if (decide (p0_1 < ((List.length a0 : Nat) : Int))) = true then (Option.bind (at? a0 p0_1) fun v8002 => (Option.bind (l_szParcel v8002 p0_0) fun v8005 => (if (decide (v8005 < 0)) = true then (some (-1)) else (l_szParcelS_l1 n a0 v8005 (IntKind.i64.wrap (p0_1 + 1)))))) else (some p0_0))
def l_szParcelS (a0 : List Parcel) (a1 : Int) : Option (Int) :=
  (if (decide ((IntKind.i64.wrap (a1 - ((List.length a0 : Nat) : Int))) < 0)) = true then (some (-1)) else (l_szParcelS_l1 fuel a0 (IntKind.i64.wrap (a1 - ((List.length a0 : Nat) : Int))) 0))
def l_szParcelSS_l1 : Nat → (List (List Parcel)) → Int → Int → Option (Int)
  | 0, _, _, _ => none
  | n + 1, a0, p0_0, p0_1 => (if (decide (p0_1 < ((List.length a0 : Nat) : Int))) = true then (Option.bind (at? a0 p0_1) fun v8002 => (Option.bind (l_szParcelS v8002 p0_0) fun v8005 => (if (decide (v8005 < 0)) = true then (some (-1)) else (l_szParcelSS_l1 n a0 v8005 (IntKind.i64.wrap (p0_1 + 1)))))) else (some p0_0))
def l_szParcelSS (a0 : List (List Parcel)) (a1 : Int) : Option (Int) :=
  (if (decide ((IntKind.i64.wrap (a1 - ((List.length a0 : Nat) : Int))) < 0)) = true then (some (-1)) else (l_szParcelSS_l1 fuel a0 (IntKind.i64.wrap (a1 - ((List.length a0 : Nat) : Int))) 0))
def l_szInt64SS_l1 : Nat → (List (List Int)) → Int → Int → Option (Int)
  | 0, _, _, _ => none
  | n + 1, a0, p0_0, p0_1 => (if (decide (p0_1 < ((List.length a0 : Nat) : Int))) = true then (Option.bind (at? a0 p0_1) fun v8002 => (Option.bind (l_szInt64S v8002 p0_0) fun v8005 => (if (decide (v8005 < 0)) = true then (some (-1)) else (l_szInt64SS_l1 n a0 v8005 (IntKind.i64.wrap (p0_1 + 1)))))) else (some p0_0))
def l_szInt64SS (a0 : List (List Int)) (a1 : Int) : Option (Int) :=
  (if (decide ((IntKind.i64.wrap (a1 - ((List.length a0 : Nat) : Int))) < 0)) = true then (some (-1)) else (l_szInt64SS_l1 fuel a0 (IntKind.i64.wrap (a1 - ((List.length a0 : Nat) : Int))) 0))
def l_szCluster (a0 : Cluster) (a1 : Int) : Option (Int) :=
  (Option.bind (l_szGrid a0.grid a1) fun v2003 => (if (decide (v2003 < 0)) = true then (some (-1)) else (Option.bind (l_szParcelSS a0.channels v2003) fun v5003 => (if (decide (v5003 < 0)) = true then (some (-1)) else (Option.bind (l_szInt64SS a0.counts v5003) fun v8003 => (if (decide (v8003 < 0)) = true then (some (-1)) else (Option.bind (l_szInt64S a0.sent v8003) fun v11003 => (if (decide (v11003 < 0)) = true then (some (-1)) else (Option.bind (l_szInt64S a0.got v11003) fun v14003 => (if (decide (v14003 < 0)) = true then (some (-1)) else (some v14003)))))))))))
def l_szBoolS (a0 : List Bool) (a1 : Int) : Option (Int) :=
  (if (decide ((IntKind.i64.wrap (a1 - ((List.length a0 : Nat) : Int))) < 0)) = true then (some (-1)) else (some (IntKind.i64.wrap (a1 - ((List.length a0 : Nat) : Int)))))
def l_szShot (a0 : Shot) (a1 : Int) : Option (Int) :=
  (Option.bind (l_szBoolS a0.taken a1) fun v2003 => (if (decide (v2003 < 0)) = true then (some (-1)) else (Option.bind (l_szShardS a0.shards v2003) fun v5003 => (if (decide (v5003 < 0)) = true then (some (-1)) else (Option.bind (l_szInt64SS a0.counts v5003) fun v8003 => (if (decide (v8003 < 0)) = true then (some (-1)) else (Option.bind (l_szBoolS a0.recording v8003) fun v11003 => (if (decide (v11003 < 0)) = true then (some (-1)) else (Option.bind (l_szParcelSS a0.saved v11003) fun v14003 => (if (decide (v14003 < 0)) = true then (some (-1)) else (some v14003)))))))))))
def l_szWatched (a0 : Watched) (a1 : Int) : Option (Int) :=
  (Option.bind (l_szCluster a0.cluster a1) fun v2003 => (if (decide (v2003 < 0)) = true then (some (-1)) else (Option.bind (l_szShot a0.shot v2003) fun v5003 => (if (decide (v5003 < 0)) = true then (some (-1)) else (some v5003)))))
def l_szService (a0 : Service) (a1 : Int) : Option (Int) :=
  (Option.bind (l_szWatched a0.watched a1) fun v2003 => (if (decide (v2003 < 0)) = true then (some (-1)) else (Option.bind (l_szCluster a0.good v2003) fun v5003 => (if (decide (v5003 < 0)) = true then (some (-1)) else (some v5003)))))
def s_l00Same_l1 : Nat → (List Int) → (List Int) → Int → Option (Bool)
  | 0, _, _, _ => none
  | n + 1, a0, a1, p0_0 => (if (decide (p0_0 < ((List.length a0 : Nat) : Int))) = true then (Option.bind (at? a0 p0_0) fun v7002 => (Option.bind (at? a1 p0_0) fun v7006 => (if (!decide (v7002 = v7006)) = true then (some false) else (s_l00Same_l1 n a0 a1 (IntKind.i64.wrap (p0_0 + 1)))))) else (some true))
def s_l00Same (a0 : List Int) (a1 : List Int) : Option (Bool) :=
  (if (!decide (((List.length a0 : Nat) : Int) = ((List.length a1 : Nat) : Int))) = true then (some false) else (s_l00Same_l1 fuel a0 a1 0))
def s_l27SameAddresses_l1 : Nat → (List Address) → (List Address) → Int → Option (Bool)
  | 0, _, _, _ => none
  | n + 1, a0, a1, p0_0 => (if (decide (p0_0 < ((List.length a0 : Nat) : Int))) = true then (Option.bind (at? a0 p0_0) fun v7002 => (Option.bind (at? a1 p0_0) fun v7006 => (if (!(decide (v7002.machine = v7006.machine) && (decide (v7002.kind = v7006.kind) && decide (v7002.index = v7006.index)))) = true then (some false) else (s_l27SameAddresses_l1 n a0 a1 (IntKind.i64.wrap (p0_0 + 1)))))) else (some true))
def s_l27SameAddresses (a0 : List Address) (a1 : List Address) : Option (Bool) :=
  (if (!decide (((List.length a0 : Nat) : Int) = ((List.length a1 : Nat) : Int))) = true then (some false) else (s_l27SameAddresses_l1 fuel a0 a1 0))
def s_l27SameCell (a0 : ShardCell) (a1 : ShardCell) : Option (Bool) :=
  (if (decide (a0.kind = a1.kind)) = true then (if (decide (a0.level = a1.level)) = true then (if (decide (a0.value = a1.value)) = true then (Option.bind (s_l00Same a0.data a1.data) fun v2040 => (if v2040 = true then (Option.bind (s_l27SameAddresses a0.aux a1.aux) fun v2051 => (some v2051)) else (some false))) else (some false)) else (some false)) else (some false))
def s_SameShard_l7 : Nat → Shard → Shard → Int → Option (Bool)
  | 0, _, _, _ => none
  | n + 1, a0, a1, p6_0 => (if (decide (p6_0 < ((List.length a0.redexes : Nat) : Int))) = true then (Option.bind (at? a0.redexes p6_0) fun v17003 => (Option.bind (at? a1.redexes p6_0) fun v17008 => (if (!(decide (v17003.a.machine = v17008.a.machine) && (decide (v17003.a.kind = v17008.a.kind) && (decide (v17003.a.index = v17008.a.index) && (decide (v17003.b.machine = v17008.b.machine) && (decide (v17003.b.kind = v17008.b.kind) && decide (v17003.b.index = v17008.b.index))))))) = true then (some false) else (s_SameShard_l7 n a0 a1 (IntKind.i64.wrap (p6_0 + 1)))))) else (some true))
def s_SameShard_l5 : Nat → Shard → Shard → Int → Option (Bool)
  | 0, _, _, _ => none
  | n + 1, a0, a1, p4_0 => (if (decide (p4_0 < ((List.length a0.vars : Nat) : Int))) = true then (Option.bind (at? a0.vars p4_0) fun v12003 => (Option.bind (at? a1.vars p4_0) fun v12008 => (if (!(v12003.used == v12008.used && (v12003.full == v12008.full && (decide (v12003.held.machine = v12008.held.machine) && (decide (v12003.held.kind = v12008.held.kind) && decide (v12003.held.index = v12008.held.index)))))) = true then (some false) else (s_SameShard_l5 n a0 a1 (IntKind.i64.wrap (p4_0 + 1)))))) else (s_SameShard_l7 fuel a0 a1 0))
def s_SameShard_l3 : Nat → Shard → Shard → Int → Option (Bool)
  | 0, _, _, _ => none
  | n + 1, a0, a1, p2_0 => (if (decide (p2_0 < ((List.length a0.cells : Nat) : Int))) = true then (Option.bind (at? a0.cells p2_0) fun v7003 => (Option.bind (at? a1.cells p2_0) fun v7007 => (Option.bind (s_l27SameCell v7003 v7007) fun v7008 => (if (!v7008) = true then (some false) else (s_SameShard_l3 n a0 a1 (IntKind.i64.wrap (p2_0 + 1))))))) else (s_SameShard_l5 fuel a0 a1 0))
def s_SameShard_j1 (a0 : Shard) (a1 : Shard) (p0_0 : Bool) : Option (Bool) :=
  (if p0_0 = true then (some false) else (s_SameShard_l3 fuel a0 a1 0))
def s_SameShard (a0 : Shard) (a1 : Shard) : Option (Bool) :=
  (if (!decide (((List.length a0.cells : Nat) : Int) = ((List.length a1.cells : Nat) : Int))) = true then (s_SameShard_j1 a0 a1 true) else (if (!decide (((List.length a0.vars : Nat) : Int) = ((List.length a1.vars : Nat) : Int))) = true then (s_SameShard_j1 a0 a1 true) else (s_SameShard_j1 a0 a1 (!decide (((List.length a0.redexes : Nat) : Int) = ((List.length a1.redexes : Nat) : Int))))))
def s_SameGrid_l3 : Nat → Grid → Grid → Int → Option (Bool)
  | 0, _, _, _ => none
  | n + 1, a0, a1, p2_0 => (if (decide (p2_0 < ((List.length a0.shards : Nat) : Int))) = true then (Option.bind (at? a0.shards p2_0) fun v7003 => (Option.bind (at? a1.shards p2_0) fun v7008 => (Option.bind (s_SameShard v7003 v7008) fun v7010 => (if (!v7010) = true then (some false) else (s_SameGrid_l3 n a0 a1 (IntKind.i64.wrap (p2_0 + 1))))))) else (some true))
def s_SameGrid_j1 (a0 : Grid) (a1 : Grid) (p0_0 : Bool) : Option (Bool) :=
  (if p0_0 = true then (some false) else (s_SameGrid_l3 fuel a0 a1 0))
def s_SameGrid (a0 : Grid) (a1 : Grid) : Option (Bool) :=
  (if (!(decide (a0.root.machine = a1.root.machine) && (decide (a0.root.kind = a1.root.kind) && decide (a0.root.index = a1.root.index)))) = true then (s_SameGrid_j1 a0 a1 true) else (s_SameGrid_j1 a0 a1 (!decide (((List.length a0.shards : Nat) : Int) = ((List.length a1.shards : Nat) : Int)))))
def s_l29SameParcel (a0 : Parcel) (a1 : Parcel) : Option (Bool) :=
  (if (decide (a0.kind = a1.kind)) = true then (Option.bind (s_l27SameCell a0.cell a1.cell) fun v2016 => (if v2016 = true then (if (decide (a0.a.machine = a1.a.machine) && (decide (a0.a.kind = a1.a.kind) && decide (a0.a.index = a1.a.index))) = true then (some (decide (a0.b.machine = a1.b.machine) && (decide (a0.b.kind = a1.b.kind) && decide (a0.b.index = a1.b.index)))) else (some false)) else (some false))) else (some false))
mutual
def s_l29SameChannels_l3 : Nat → (List (List Parcel)) → (List (List Parcel)) → Int → Option (Bool)
  | 0, _, _, _ => none
  | n + 1, a0, a1, p0_0 => (if (decide (p0_0 < ((List.length a0 : Nat) : Int))) = true then (Option.bind (at? a0 p0_0) fun v7002 => (Option.bind (at? a1 p0_0) fun v7007 => (if (!decide (((List.length v7002 : Nat) : Int) = ((List.length v7007 : Nat) : Int))) = true then (some false) else (s_l29SameChannels_l4 n a0 a1 p0_0 0)))) else (some true))
def s_l29SameChannels_l4 : Nat → (List (List Parcel)) → (List (List Parcel)) → Int → Int → Option (Bool)
  | 0, _, _, _, _ => none
  | n + 1, a0, a1, p0_0, p1_0 => (Option.bind (at? a0 p0_0) fun v10003 => (if (decide (p1_0 < ((List.length v10003 : Nat) : Int))) = true then (Option.bind (at? a0 p0_0) fun v12002 => (Option.bind (at? v12002 p1_0) fun v12005 => (Option.bind (at? a1 p0_0) fun v12008 => (Option.bind (at? v12008 p1_0) fun v12011 => (Option.bind (s_l29SameParcel v12005 v12011) fun v12012 => (if (!v12012) = true then (some false) else (s_l29SameChannels_l4 n a0 a1 p0_0 (IntKind.i64.wrap (p1_0 + 1))))))))) else (s_l29SameChannels_l3 n a0 a1 (IntKind.i64.wrap (p0_0 + 1)))))
end
def s_l29SameChannels (a0 : List (List Parcel)) (a1 : List (List Parcel)) : Option (Bool) :=
  (if (!decide (((List.length a0 : Nat) : Int) = ((List.length a1 : Nat) : Int))) = true then (some false) else (s_l29SameChannels_l3 fuel a0 a1 0))
def s_l29SameLists_l1 : Nat → (List (List Int)) → (List (List Int)) → Int → Option (Bool)
  | 0, _, _, _ => none
  | n + 1, a0, a1, p0_0 => (if (decide (p0_0 < ((List.length a0 : Nat) : Int))) = true then (Option.bind (at? a0 p0_0) fun v7002 => (Option.bind (at? a1 p0_0) fun v7006 => (Option.bind (s_l00Same v7002 v7006) fun v7008 => (if (!v7008) = true then (some false) else (s_l29SameLists_l1 n a0 a1 (IntKind.i64.wrap (p0_0 + 1))))))) else (some true))
def s_l29SameLists (a0 : List (List Int)) (a1 : List (List Int)) : Option (Bool) :=
  (if (!decide (((List.length a0 : Nat) : Int) = ((List.length a1 : Nat) : Int))) = true then (some false) else (s_l29SameLists_l1 fuel a0 a1 0))
def s_SameCluster (a0 : Cluster) (a1 : Cluster) : Option (Bool) :=
  (Option.bind (s_SameGrid a0.grid a1.grid) fun v2004 => (if v2004 = true then (Option.bind (s_l29SameChannels a0.channels a1.channels) fun v2010 => (if v2010 = true then (Option.bind (s_l29SameLists a0.counts a1.counts) fun v2017 => (if v2017 = true then (Option.bind (s_l00Same a0.sent a1.sent) fun v2024 => (if v2024 = true then (Option.bind (s_l00Same a0.got a1.got) fun v2031 => (some v2031)) else (some false))) else (some false))) else (some false))) else (some false)))
def s_l30SameBools_l1 : Nat → (List Bool) → (List Bool) → Int → Option (Bool)
  | 0, _, _, _ => none
  | n + 1, a0, a1, p0_0 => (if (decide (p0_0 < ((List.length a0 : Nat) : Int))) = true then (Option.bind (at? a0 p0_0) fun v7002 => (Option.bind (at? a1 p0_0) fun v7006 => (if (!(v7002 == v7006)) = true then (some false) else (s_l30SameBools_l1 n a0 a1 (IntKind.i64.wrap (p0_0 + 1)))))) else (some true))
def s_l30SameBools (a0 : List Bool) (a1 : List Bool) : Option (Bool) :=
  (if (!decide (((List.length a0 : Nat) : Int) = ((List.length a1 : Nat) : Int))) = true then (some false) else (s_l30SameBools_l1 fuel a0 a1 0))
def s_l30SameShot_l1 : Nat → Shot → Shot → Int → Option (Bool)
  | 0, _, _, _ => none
  | n + 1, a0, a1, p0_0 => (if (decide (p0_0 < ((List.length a0.shards : Nat) : Int))) = true then (Option.bind (at? a0.shards p0_0) fun v7005 => (Option.bind (at? a1.shards p0_0) fun v7012 => (Option.bind (s_SameShard v7005 v7012) fun v7014 => (if (!v7014) = true then (some false) else (s_l30SameShot_l1 n a0 a1 (IntKind.i64.wrap (p0_0 + 1))))))) else (Option.bind (s_l30SameBools a0.taken a1.taken) fun v9008 => (if v9008 = true then (Option.bind (s_l29SameLists a0.counts a1.counts) fun v9018 => (if v9018 = true then (Option.bind (s_l30SameBools a0.recording a1.recording) fun v9029 => (if v9029 = true then (Option.bind (s_l29SameChannels a0.saved a1.saved) fun v9040 => (some v9040)) else (some false))) else (some false))) else (some false))))
def s_l30SameShot (a0 : Shot) (a1 : Shot) : Option (Bool) :=
  (if (!decide (((List.length a0.shards : Nat) : Int) = ((List.length a1.shards : Nat) : Int))) = true then (some false) else (s_l30SameShot_l1 fuel a0 a1 0))
def s_SameWatched (a0 : Watched) (a1 : Watched) : Option (Bool) :=
  (Option.bind (s_SameCluster a0.cluster a1.cluster) fun v2004 => (if v2004 = true then (Option.bind (s_l30SameShot a0.shot a1.shot) fun v2008 => (some v2008)) else (some false)))
def s_SameService (a0 : Service) (a1 : Service) : Option (Bool) :=
  (Option.bind (s_SameWatched a0.watched a1.watched) fun v2004 => (if v2004 = true then (Option.bind (s_SameCluster a0.good a1.good) fun v2010 => (if v2010 = true then (if (decide (a0.shots = a1.shots)) = true then (some (decide (a0.crashes = a1.crashes))) else (some false)) else (some false))) else (some false)))
def l_toAddress (a0 : Address) : Option (Address) :=
  (some a0)
def l_toAddressS_l2 : Nat → (List Address) → (List Address) → Int → Option ((List Address))
  | 0, _, _, _ => none
  | n + 1, a0, p1_0, p1_1 => (if (decide (p1_1 < ((List.length a0 : Nat) : Int))) = true then (Option.bind (at? a0 p1_1) fun v6004 => (Option.bind (l_toAddress v6004) fun v6006 => (Option.bind (at? p1_0 p1_1) fun v6007 => (Option.bind (set1? p1_0 p1_1 v6006) fun v6008_12 => (l_toAddressS_l2 n a0 v6008_12 (IntKind.i64.wrap (p1_1 + 1))))))) else (some p1_0))
def l_toAddressS (a0 : List Address) : Option ((List Address)) :=
  (Option.bind (rep? ((List.length a0 : Nat) : Int) (⟨0, 0, 0⟩ : Address)) fun v2002 => (l_toAddressS_l2 fuel a0 v2002 0))
def l_toShardCell (a0 : ShardCell) : Option (ShardCell) :=
  (Option.bind (l_toInt64S a0.data) fun v6002 => (Option.bind (l_toAddressS a0.aux) fun v7002 => (some (⟨a0.kind, a0.level, a0.value, v6002, v7002⟩ : ShardCell))))
def l_toShardCellS_l2 : Nat → (List ShardCell) → (List ShardCell) → Int → Option ((List ShardCell))
  | 0, _, _, _ => none
  | n + 1, a0, p1_0, p1_1 => (if (decide (p1_1 < ((List.length a0 : Nat) : Int))) = true then (Option.bind (at? a0 p1_1) fun v6004 => (Option.bind (l_toShardCell v6004) fun v6006 => (Option.bind (at? p1_0 p1_1) fun v6007 => (Option.bind (set1? p1_0 p1_1 v6006) fun v6008_12 => (l_toShardCellS_l2 n a0 v6008_12 (IntKind.i64.wrap (p1_1 + 1))))))) else (some p1_0))
def l_toShardCellS (a0 : List ShardCell) : Option ((List ShardCell)) :=
  (Option.bind (rep? ((List.length a0 : Nat) : Int) (⟨0, 0, 0, [], []⟩ : ShardCell)) fun v2002 => (l_toShardCellS_l2 fuel a0 v2002 0))
def l_toShardVar (a0 : ShardVar) : Option (ShardVar) :=
  (Option.bind (l_toAddress a0.held) fun v5002 => (some (⟨a0.used, a0.full, v5002⟩ : ShardVar)))
def l_toShardVarS_l2 : Nat → (List ShardVar) → (List ShardVar) → Int → Option ((List ShardVar))
  | 0, _, _, _ => none
  | n + 1, a0, p1_0, p1_1 => (if (decide (p1_1 < ((List.length a0 : Nat) : Int))) = true then (Option.bind (at? a0 p1_1) fun v6004 => (Option.bind (l_toShardVar v6004) fun v6006 => (Option.bind (at? p1_0 p1_1) fun v6007 => (Option.bind (set1? p1_0 p1_1 v6006) fun v6008_12 => (l_toShardVarS_l2 n a0 v6008_12 (IntKind.i64.wrap (p1_1 + 1))))))) else (some p1_0))
def l_toShardVarS (a0 : List ShardVar) : Option ((List ShardVar)) :=
  (Option.bind (rep? ((List.length a0 : Nat) : Int) (⟨false, false, (⟨0, 0, 0⟩ : Address)⟩ : ShardVar)) fun v2002 => (l_toShardVarS_l2 fuel a0 v2002 0))
def l_toShardRedex (a0 : ShardRedex) : Option (ShardRedex) :=
  (Option.bind (l_toAddress a0.a) fun v3002 => (Option.bind (l_toAddress a0.b) fun v4002 => (some (⟨v3002, v4002⟩ : ShardRedex))))
def l_toShardRedexS_l2 : Nat → (List ShardRedex) → (List ShardRedex) → Int → Option ((List ShardRedex))
  | 0, _, _, _ => none
  | n + 1, a0, p1_0, p1_1 => (if (decide (p1_1 < ((List.length a0 : Nat) : Int))) = true then (Option.bind (at? a0 p1_1) fun v6004 => (Option.bind (l_toShardRedex v6004) fun v6006 => (Option.bind (at? p1_0 p1_1) fun v6007 => (Option.bind (set1? p1_0 p1_1 v6006) fun v6008_12 => (l_toShardRedexS_l2 n a0 v6008_12 (IntKind.i64.wrap (p1_1 + 1))))))) else (some p1_0))
def l_toShardRedexS (a0 : List ShardRedex) : Option ((List ShardRedex)) :=
  (Option.bind (rep? ((List.length a0 : Nat) : Int) (⟨(⟨0, 0, 0⟩ : Address), (⟨0, 0, 0⟩ : Address)⟩ : ShardRedex)) fun v2002 => (l_toShardRedexS_l2 fuel a0 v2002 0))
def l_toShard (a0 : Shard) : Option (Shard) :=
  (Option.bind (l_toShardCellS a0.cells) fun v3002 => (Option.bind (l_toShardVarS a0.vars) fun v4002 => (Option.bind (l_toShardRedexS a0.redexes) fun v5002 => (some (⟨v3002, v4002, v5002⟩ : Shard)))))
def l_toShardS_l2 : Nat → (List Shard) → (List Shard) → Int → Option ((List Shard))
  | 0, _, _, _ => none
  | n + 1, a0, p1_0, p1_1 => (if (decide (p1_1 < ((List.length a0 : Nat) : Int))) = true then (Option.bind (at? a0 p1_1) fun v6004 => (Option.bind (l_toShard v6004) fun v6006 => (Option.bind (at? p1_0 p1_1) fun v6007 => (Option.bind (set1? p1_0 p1_1 v6006) fun v6008_12 => (l_toShardS_l2 n a0 v6008_12 (IntKind.i64.wrap (p1_1 + 1))))))) else (some p1_0))
def l_toShardS (a0 : List Shard) : Option ((List Shard)) :=
  (Option.bind (rep? ((List.length a0 : Nat) : Int) (⟨[], [], []⟩ : Shard)) fun v2002 => (l_toShardS_l2 fuel a0 v2002 0))
def l_toGrid (a0 : Grid) : Option (Grid) :=
  (Option.bind (l_toShardS a0.shards) fun v3002 => (Option.bind (l_toAddress a0.root) fun v4002 => (some (⟨v3002, v4002⟩ : Grid))))
def l_toParcel (a0 : Parcel) : Option (Parcel) :=
  (Option.bind (l_toShardCell a0.cell) fun v4002 => (Option.bind (l_toAddress a0.a) fun v5002 => (Option.bind (l_toAddress a0.b) fun v6002 => (some (⟨a0.kind, v4002, v5002, v6002⟩ : Parcel)))))
def l_toParcelS_l2 : Nat → (List Parcel) → (List Parcel) → Int → Option ((List Parcel))
  | 0, _, _, _ => none
  | n + 1, a0, p1_0, p1_1 => (if (decide (p1_1 < ((List.length a0 : Nat) : Int))) = true then (Option.bind (at? a0 p1_1) fun v6004 => (Option.bind (l_toParcel v6004) fun v6006 => (Option.bind (at? p1_0 p1_1) fun v6007 => (Option.bind (set1? p1_0 p1_1 v6006) fun v6008_12 => (l_toParcelS_l2 n a0 v6008_12 (IntKind.i64.wrap (p1_1 + 1))))))) else (some p1_0))
def l_toParcelS (a0 : List Parcel) : Option ((List Parcel)) :=
  (Option.bind (rep? ((List.length a0 : Nat) : Int) (⟨0, (⟨0, 0, 0, [], []⟩ : ShardCell), (⟨0, 0, 0⟩ : Address), (⟨0, 0, 0⟩ : Address)⟩ : Parcel)) fun v2002 => (l_toParcelS_l2 fuel a0 v2002 0))
def l_toParcelSS_l2 : Nat → (List (List Parcel)) → (List (List Parcel)) → Int → Option ((List (List Parcel)))
  | 0, _, _, _ => none
  | n + 1, a0, p1_0, p1_1 => (if (decide (p1_1 < ((List.length a0 : Nat) : Int))) = true then (Option.bind (at? a0 p1_1) fun v6004 => (Option.bind (l_toParcelS v6004) fun v6006 => (Option.bind (at? p1_0 p1_1) fun v6007 => (Option.bind (set1? p1_0 p1_1 v6006) fun v6008_12 => (l_toParcelSS_l2 n a0 v6008_12 (IntKind.i64.wrap (p1_1 + 1))))))) else (some p1_0))
def l_toParcelSS (a0 : List (List Parcel)) : Option ((List (List Parcel))) :=
  (Option.bind (rep? ((List.length a0 : Nat) : Int) []) fun v2002 => (l_toParcelSS_l2 fuel a0 v2002 0))
def l_toInt64SS_l2 : Nat → (List (List Int)) → (List (List Int)) → Int → Option ((List (List Int)))
  | 0, _, _, _ => none
  | n + 1, a0, p1_0, p1_1 => (if (decide (p1_1 < ((List.length a0 : Nat) : Int))) = true then (Option.bind (at? a0 p1_1) fun v6004 => (Option.bind (l_toInt64S v6004) fun v6006 => (Option.bind (at? p1_0 p1_1) fun v6007 => (Option.bind (set1? p1_0 p1_1 v6006) fun v6008_12 => (l_toInt64SS_l2 n a0 v6008_12 (IntKind.i64.wrap (p1_1 + 1))))))) else (some p1_0))
def l_toInt64SS (a0 : List (List Int)) : Option ((List (List Int))) :=
  (Option.bind (rep? ((List.length a0 : Nat) : Int) []) fun v2002 => (l_toInt64SS_l2 fuel a0 v2002 0))
def l_toCluster (a0 : Cluster) : Option (Cluster) :=
  (Option.bind (l_toGrid a0.grid) fun v3002 => (Option.bind (l_toParcelSS a0.channels) fun v4002 => (Option.bind (l_toInt64SS a0.counts) fun v5002 => (Option.bind (l_toInt64S a0.sent) fun v6002 => (Option.bind (l_toInt64S a0.got) fun v7002 => (some (⟨v3002, v4002, v5002, v6002, v7002⟩ : Cluster)))))))
def l_toBoolS_l2 : Nat → (List Bool) → (List Bool) → Int → Option ((List Bool))
  | 0, _, _, _ => none
  | n + 1, a0, p1_0, p1_1 => (if (decide (p1_1 < ((List.length a0 : Nat) : Int))) = true then (Option.bind (at? a0 p1_1) fun v6004 => (Option.bind (at? p1_0 p1_1) fun v6006 => (Option.bind (set1? p1_0 p1_1 v6004) fun v6007_12 => (l_toBoolS_l2 n a0 v6007_12 (IntKind.i64.wrap (p1_1 + 1)))))) else (some p1_0))
def l_toBoolS (a0 : List Bool) : Option ((List Bool)) :=
  (Option.bind (rep? ((List.length a0 : Nat) : Int) false) fun v2002 => (l_toBoolS_l2 fuel a0 v2002 0))
def l_toShot (a0 : Shot) : Option (Shot) :=
  (Option.bind (l_toBoolS a0.taken) fun v3002 => (Option.bind (l_toShardS a0.shards) fun v4002 => (Option.bind (l_toInt64SS a0.counts) fun v5002 => (Option.bind (l_toBoolS a0.recording) fun v6002 => (Option.bind (l_toParcelSS a0.saved) fun v7002 => (some (⟨v3002, v4002, v5002, v6002, v7002⟩ : Shot)))))))
def l_toWatched (a0 : Watched) : Option (Watched) :=
  (Option.bind (l_toCluster a0.cluster) fun v3002 => (Option.bind (l_toShot a0.shot) fun v4002 => (some (⟨v3002, v4002⟩ : Watched))))
def l_toService (a0 : Service) : Option (Service) :=
  (Option.bind (l_toWatched a0.watched) fun v3002 => (Option.bind (l_toCluster a0.good) fun v4002 => (some (⟨v3002, v4002, a0.shots, a0.crashes⟩ : Service))))
def g_Equal_sint64_l1 : Nat → (List Int) → (List Int) → Int → Option (Bool)
  | 0, _, _, _ => none
  | n + 1, a0, a1, p0_0 => (if (decide (p0_0 < ((List.length a0 : Nat) : Int))) = true then (Option.bind (at? a0 p0_0) fun v7002 => (Option.bind (at? a1 p0_0) fun v7006 => (if (!decide (v7002 = v7006)) = true then (some false) else (g_Equal_sint64_l1 n a0 a1 (IntKind.i64.wrap (p0_0 + 1)))))) else (some true))
def g_Equal_sint64 (a0 : List Int) (a1 : List Int) : Option (Bool) :=
  (if (!decide (((List.length a0 : Nat) : Int) = ((List.length a1 : Nat) : Int))) = true then (some false) else (g_Equal_sint64_l1 fuel a0 a1 0))
def g_EqualFunc_simpl_Shard_l1 : Nat → (List Shard) → (List Shard) → Int → (Shard → Shard → Option Bool) → Option (Bool)
  | 0, _, _, _, _ => none
  | n + 1, a0, a1, p0_0, f2 => (if (decide (p0_0 < ((List.length a0 : Nat) : Int))) = true then (Option.bind (at? a0 p0_0) fun v6001 => (Option.bind (at? a1 p0_0) fun v7002 => (Option.bind (f2 v6001 v7002) fun v8003 => (if (!v8003) = true then (some false) else (g_EqualFunc_simpl_Shard_l1 n a0 a1 (IntKind.i64.wrap (p0_0 + 1)) f2))))) else (some true))
def g_EqualFunc_simpl_Shard (a0 : List Shard) (a1 : List Shard) (f2 : (Shard → Shard → Option Bool)) : Option (Bool) :=
  (if (!decide (((List.length a0 : Nat) : Int) = ((List.length a1 : Nat) : Int))) = true then (some false) else (g_EqualFunc_simpl_Shard_l1 fuel a0 a1 0 f2))
def g_EqualFunc_simpl_ShardCell_l1 : Nat → (List ShardCell) → (List ShardCell) → Int → (ShardCell → ShardCell → Option Bool) → Option (Bool)
  | 0, _, _, _, _ => none
  | n + 1, a0, a1, p0_0, f2 => (if (decide (p0_0 < ((List.length a0 : Nat) : Int))) = true then (Option.bind (at? a0 p0_0) fun v6001 => (Option.bind (at? a1 p0_0) fun v7002 => (Option.bind (f2 v6001 v7002) fun v8003 => (if (!v8003) = true then (some false) else (g_EqualFunc_simpl_ShardCell_l1 n a0 a1 (IntKind.i64.wrap (p0_0 + 1)) f2))))) else (some true))
def g_EqualFunc_simpl_ShardCell (a0 : List ShardCell) (a1 : List ShardCell) (f2 : (ShardCell → ShardCell → Option Bool)) : Option (Bool) :=
  (if (!decide (((List.length a0 : Nat) : Int) = ((List.length a1 : Nat) : Int))) = true then (some false) else (g_EqualFunc_simpl_ShardCell_l1 fuel a0 a1 0 f2))
def g_Equal_simpl_Address_l1 : Nat → (List Address) → (List Address) → Int → Option (Bool)
  | 0, _, _, _ => none
  | n + 1, a0, a1, p0_0 => (if (decide (p0_0 < ((List.length a0 : Nat) : Int))) = true then (Option.bind (at? a0 p0_0) fun v7002 => (Option.bind (at? a1 p0_0) fun v7006 => (if (!(decide (v7002.machine = v7006.machine) && (decide (v7002.kind = v7006.kind) && decide (v7002.index = v7006.index)))) = true then (some false) else (g_Equal_simpl_Address_l1 n a0 a1 (IntKind.i64.wrap (p0_0 + 1)))))) else (some true))
def g_Equal_simpl_Address (a0 : List Address) (a1 : List Address) : Option (Bool) :=
  (if (!decide (((List.length a0 : Nat) : Int) = ((List.length a1 : Nat) : Int))) = true then (some false) else (g_Equal_simpl_Address_l1 fuel a0 a1 0))
def i_sameShardCell (a0 : ShardCell) (a1 : ShardCell) : Option (Bool) :=
  (if (decide (a0.kind = a1.kind)) = true then (if (decide (a0.level = a1.level)) = true then (if (decide (a0.value = a1.value)) = true then (Option.bind (g_Equal_sint64 a0.data a1.data) fun v2024 => (if v2024 = true then (Option.bind (g_Equal_simpl_Address a0.aux a1.aux) fun v2031 => (some v2031)) else (some false))) else (some false)) else (some false)) else (some false))
def g_Equal_simpl_ShardVar_l1 : Nat → (List ShardVar) → (List ShardVar) → Int → Option (Bool)
  | 0, _, _, _ => none
  | n + 1, a0, a1, p0_0 => (if (decide (p0_0 < ((List.length a0 : Nat) : Int))) = true then (Option.bind (at? a0 p0_0) fun v7002 => (Option.bind (at? a1 p0_0) fun v7006 => (if (!(v7002.used == v7006.used && (v7002.full == v7006.full && (decide (v7002.held.machine = v7006.held.machine) && (decide (v7002.held.kind = v7006.held.kind) && decide (v7002.held.index = v7006.held.index)))))) = true then (some false) else (g_Equal_simpl_ShardVar_l1 n a0 a1 (IntKind.i64.wrap (p0_0 + 1)))))) else (some true))
def g_Equal_simpl_ShardVar (a0 : List ShardVar) (a1 : List ShardVar) : Option (Bool) :=
  (if (!decide (((List.length a0 : Nat) : Int) = ((List.length a1 : Nat) : Int))) = true then (some false) else (g_Equal_simpl_ShardVar_l1 fuel a0 a1 0))
def g_Equal_simpl_ShardRedex_l1 : Nat → (List ShardRedex) → (List ShardRedex) → Int → Option (Bool)
  | 0, _, _, _ => none
  | n + 1, a0, a1, p0_0 => (if (decide (p0_0 < ((List.length a0 : Nat) : Int))) = true then (Option.bind (at? a0 p0_0) fun v7002 => (Option.bind (at? a1 p0_0) fun v7006 => (if (!(decide (v7002.a.machine = v7006.a.machine) && (decide (v7002.a.kind = v7006.a.kind) && (decide (v7002.a.index = v7006.a.index) && (decide (v7002.b.machine = v7006.b.machine) && (decide (v7002.b.kind = v7006.b.kind) && decide (v7002.b.index = v7006.b.index))))))) = true then (some false) else (g_Equal_simpl_ShardRedex_l1 n a0 a1 (IntKind.i64.wrap (p0_0 + 1)))))) else (some true))
def g_Equal_simpl_ShardRedex (a0 : List ShardRedex) (a1 : List ShardRedex) : Option (Bool) :=
  (if (!decide (((List.length a0 : Nat) : Int) = ((List.length a1 : Nat) : Int))) = true then (some false) else (g_Equal_simpl_ShardRedex_l1 fuel a0 a1 0))
def i_SameShard (a0 : Shard) (a1 : Shard) : Option (Bool) :=
  (Option.bind (g_EqualFunc_simpl_ShardCell a0.cells a1.cells (fun y0 y1 => i_sameShardCell y0 y1)) fun v2004 => (if v2004 = true then (Option.bind (g_Equal_simpl_ShardVar a0.vars a1.vars) fun v2010 => (if v2010 = true then (Option.bind (g_Equal_simpl_ShardRedex a0.redexes a1.redexes) fun v2017 => (some v2017)) else (some false))) else (some false)))
def i_SameGrid (a0 : Grid) (a1 : Grid) : Option (Bool) :=
  (if (decide (a0.root.machine = a1.root.machine) && (decide (a0.root.kind = a1.root.kind) && decide (a0.root.index = a1.root.index))) = true then (Option.bind (g_EqualFunc_simpl_Shard a0.shards a1.shards (fun y0 y1 => i_SameShard y0 y1)) fun v2010 => (some v2010)) else (some false))
def g_EqualFunc_ssimpl_Parcel_l1 : Nat → (List (List Parcel)) → (List (List Parcel)) → Int → ((List Parcel) → (List Parcel) → Option Bool) → Option (Bool)
  | 0, _, _, _, _ => none
  | n + 1, a0, a1, p0_0, f2 => (if (decide (p0_0 < ((List.length a0 : Nat) : Int))) = true then (Option.bind (at? a0 p0_0) fun v6001 => (Option.bind (at? a1 p0_0) fun v7002 => (Option.bind (f2 v6001 v7002) fun v8003 => (if (!v8003) = true then (some false) else (g_EqualFunc_ssimpl_Parcel_l1 n a0 a1 (IntKind.i64.wrap (p0_0 + 1)) f2))))) else (some true))
def g_EqualFunc_ssimpl_Parcel (a0 : List (List Parcel)) (a1 : List (List Parcel)) (f2 : ((List Parcel) → (List Parcel) → Option Bool)) : Option (Bool) :=
  (if (!decide (((List.length a0 : Nat) : Int) = ((List.length a1 : Nat) : Int))) = true then (some false) else (g_EqualFunc_ssimpl_Parcel_l1 fuel a0 a1 0 f2))
def g_EqualFunc_simpl_Parcel_l1 : Nat → (List Parcel) → (List Parcel) → Int → (Parcel → Parcel → Option Bool) → Option (Bool)
  | 0, _, _, _, _ => none
  | n + 1, a0, a1, p0_0, f2 => (if (decide (p0_0 < ((List.length a0 : Nat) : Int))) = true then (Option.bind (at? a0 p0_0) fun v6001 => (Option.bind (at? a1 p0_0) fun v7002 => (Option.bind (f2 v6001 v7002) fun v8003 => (if (!v8003) = true then (some false) else (g_EqualFunc_simpl_Parcel_l1 n a0 a1 (IntKind.i64.wrap (p0_0 + 1)) f2))))) else (some true))
def g_EqualFunc_simpl_Parcel (a0 : List Parcel) (a1 : List Parcel) (f2 : (Parcel → Parcel → Option Bool)) : Option (Bool) :=
  (if (!decide (((List.length a0 : Nat) : Int) = ((List.length a1 : Nat) : Int))) = true then (some false) else (g_EqualFunc_simpl_Parcel_l1 fuel a0 a1 0 f2))
def i_sameParcel (a0 : Parcel) (a1 : Parcel) : Option (Bool) :=
  (if (decide (a0.kind = a1.kind)) = true then (if (decide (a0.a.machine = a1.a.machine) && (decide (a0.a.kind = a1.a.kind) && decide (a0.a.index = a1.a.index))) = true then (if (decide (a0.b.machine = a1.b.machine) && (decide (a0.b.kind = a1.b.kind) && decide (a0.b.index = a1.b.index))) = true then (Option.bind (i_sameShardCell a0.cell a1.cell) fun v2024 => (some v2024)) else (some false)) else (some false)) else (some false))
def i_sameParcels (a0 : List Parcel) (a1 : List Parcel) : Option (Bool) :=
  (Option.bind (g_EqualFunc_simpl_Parcel a0 a1 (fun y0 y1 => i_sameParcel y0 y1)) fun v2002 => (some v2002))
def g_EqualFunc_ssint64_l1 : Nat → (List (List Int)) → (List (List Int)) → Int → ((List Int) → (List Int) → Option Bool) → Option (Bool)
  | 0, _, _, _, _ => none
  | n + 1, a0, a1, p0_0, f2 => (if (decide (p0_0 < ((List.length a0 : Nat) : Int))) = true then (Option.bind (at? a0 p0_0) fun v6001 => (Option.bind (at? a1 p0_0) fun v7002 => (Option.bind (f2 v6001 v7002) fun v8003 => (if (!v8003) = true then (some false) else (g_EqualFunc_ssint64_l1 n a0 a1 (IntKind.i64.wrap (p0_0 + 1)) f2))))) else (some true))
def g_EqualFunc_ssint64 (a0 : List (List Int)) (a1 : List (List Int)) (f2 : ((List Int) → (List Int) → Option Bool)) : Option (Bool) :=
  (if (!decide (((List.length a0 : Nat) : Int) = ((List.length a1 : Nat) : Int))) = true then (some false) else (g_EqualFunc_ssint64_l1 fuel a0 a1 0 f2))
def i_SameCluster (a0 : Cluster) (a1 : Cluster) : Option (Bool) :=
  (Option.bind (i_SameGrid a0.grid a1.grid) fun v2004 => (if v2004 = true then (Option.bind (g_EqualFunc_ssimpl_Parcel a0.channels a1.channels (fun y0 y1 => i_sameParcels y0 y1)) fun v2010 => (if v2010 = true then (Option.bind (g_EqualFunc_ssint64 a0.counts a1.counts (fun y0 y1 => g_Equal_sint64 y0 y1)) fun v2017 => (if v2017 = true then (Option.bind (g_Equal_sint64 a0.sent a1.sent) fun v2024 => (if v2024 = true then (Option.bind (g_Equal_sint64 a0.got a1.got) fun v2031 => (some v2031)) else (some false))) else (some false))) else (some false))) else (some false)))
def g_Equal_sbool_l1 : Nat → (List Bool) → (List Bool) → Int → Option (Bool)
  | 0, _, _, _ => none
  | n + 1, a0, a1, p0_0 => (if (decide (p0_0 < ((List.length a0 : Nat) : Int))) = true then (Option.bind (at? a0 p0_0) fun v7002 => (Option.bind (at? a1 p0_0) fun v7006 => (if (!(v7002 == v7006)) = true then (some false) else (g_Equal_sbool_l1 n a0 a1 (IntKind.i64.wrap (p0_0 + 1)))))) else (some true))
def g_Equal_sbool (a0 : List Bool) (a1 : List Bool) : Option (Bool) :=
  (if (!decide (((List.length a0 : Nat) : Int) = ((List.length a1 : Nat) : Int))) = true then (some false) else (g_Equal_sbool_l1 fuel a0 a1 0))
def i_sameShot (a0 : Shot) (a1 : Shot) : Option (Bool) :=
  (Option.bind (g_Equal_sbool a0.taken a1.taken) fun v2004 => (if v2004 = true then (Option.bind (g_EqualFunc_simpl_Shard a0.shards a1.shards (fun y0 y1 => i_SameShard y0 y1)) fun v2010 => (if v2010 = true then (Option.bind (g_EqualFunc_ssint64 a0.counts a1.counts (fun y0 y1 => g_Equal_sint64 y0 y1)) fun v2017 => (if v2017 = true then (Option.bind (g_Equal_sbool a0.recording a1.recording) fun v2024 => (if v2024 = true then (Option.bind (g_EqualFunc_ssimpl_Parcel a0.saved a1.saved (fun y0 y1 => i_sameParcels y0 y1)) fun v2031 => (some v2031)) else (some false))) else (some false))) else (some false))) else (some false)))
def i_SameWatched (a0 : Watched) (a1 : Watched) : Option (Bool) :=
  (Option.bind (i_SameCluster a0.cluster a1.cluster) fun v2004 => (if v2004 = true then (Option.bind (i_sameShot a0.shot a1.shot) fun v2010 => (some v2010)) else (some false)))
def i_SameService (a0 : Service) (a1 : Service) : Option (Bool) :=
  (Option.bind (i_SameWatched a0.watched a1.watched) fun v2004 => (if v2004 = true then (Option.bind (i_SameCluster a0.good a1.good) fun v2010 => (if v2010 = true then (if (decide (a0.shots = a1.shots)) = true then (some (decide (a0.crashes = a1.crashes))) else (some false)) else (some false))) else (some false)))
def l_eqInt64SS_l1 : Nat → (List (List Int)) → (List (List Int)) → Int → Option (Bool)
  | 0, _, _, _ => none
  | n + 1, a0, a1, p0_0 => (if (decide (p0_0 < ((List.length a0 : Nat) : Int))) = true then (Option.bind (at? a0 p0_0) fun v7002 => (Option.bind (at? a1 p0_0) fun v7006 => (Option.bind (l_eqInt64S v7002 v7006) fun v7008 => (if (!v7008) = true then (some false) else (l_eqInt64SS_l1 n a0 a1 (IntKind.i64.wrap (p0_0 + 1))))))) else (some true))
def l_eqInt64SS (a0 : List (List Int)) (a1 : List (List Int)) : Option (Bool) :=
  (if (!decide (((List.length a0 : Nat) : Int) = ((List.length a1 : Nat) : Int))) = true then (some false) else (l_eqInt64SS_l1 fuel a0 a1 0))
def l_eqAddress (a0 : Address) (a1 : Address) : Option (Bool) :=
  (if (!decide (a0.machine = a1.machine)) = true then (some false) else (if (!decide (a0.kind = a1.kind)) = true then (some false) else (if (!decide (a0.index = a1.index)) = true then (some false) else (some true))))
def l_eqAddressS_l1 : Nat → (List Address) → (List Address) → Int → Option (Bool)
  | 0, _, _, _ => none
  | n + 1, a0, a1, p0_0 => (if (decide (p0_0 < ((List.length a0 : Nat) : Int))) = true then (Option.bind (at? a0 p0_0) fun v7002 => (Option.bind (at? a1 p0_0) fun v7006 => (Option.bind (l_eqAddress v7002 v7006) fun v7008 => (if (!v7008) = true then (some false) else (l_eqAddressS_l1 n a0 a1 (IntKind.i64.wrap (p0_0 + 1))))))) else (some true))
def l_eqAddressS (a0 : List Address) (a1 : List Address) : Option (Bool) :=
  (if (!decide (((List.length a0 : Nat) : Int) = ((List.length a1 : Nat) : Int))) = true then (some false) else (l_eqAddressS_l1 fuel a0 a1 0))
def l_eqShardCell (a0 : ShardCell) (a1 : ShardCell) : Option (Bool) :=
  (if (!decide (a0.kind = a1.kind)) = true then (some false) else (if (!decide (a0.level = a1.level)) = true then (some false) else (if (!decide (a0.value = a1.value)) = true then (some false) else (Option.bind (l_eqInt64S a0.data a1.data) fun v8004 => (if (!v8004) = true then (some false) else (Option.bind (l_eqAddressS a0.aux a1.aux) fun v10004 => (if (!v10004) = true then (some false) else (some true))))))))
def l_eqShardCellS_l1 : Nat → (List ShardCell) → (List ShardCell) → Int → Option (Bool)
  | 0, _, _, _ => none
  | n + 1, a0, a1, p0_0 => (if (decide (p0_0 < ((List.length a0 : Nat) : Int))) = true then (Option.bind (at? a0 p0_0) fun v7002 => (Option.bind (at? a1 p0_0) fun v7006 => (Option.bind (l_eqShardCell v7002 v7006) fun v7008 => (if (!v7008) = true then (some false) else (l_eqShardCellS_l1 n a0 a1 (IntKind.i64.wrap (p0_0 + 1))))))) else (some true))
def l_eqShardCellS (a0 : List ShardCell) (a1 : List ShardCell) : Option (Bool) :=
  (if (!decide (((List.length a0 : Nat) : Int) = ((List.length a1 : Nat) : Int))) = true then (some false) else (l_eqShardCellS_l1 fuel a0 a1 0))
def l_eqShardVar (a0 : ShardVar) (a1 : ShardVar) : Option (Bool) :=
  (if (!(a0.used == a1.used)) = true then (some false) else (if (!(a0.full == a1.full)) = true then (some false) else (Option.bind (l_eqAddress a0.held a1.held) fun v6004 => (if (!v6004) = true then (some false) else (some true)))))
def l_eqShardVarS_l1 : Nat → (List ShardVar) → (List ShardVar) → Int → Option (Bool)
  | 0, _, _, _ => none
  | n + 1, a0, a1, p0_0 => (if (decide (p0_0 < ((List.length a0 : Nat) : Int))) = true then (Option.bind (at? a0 p0_0) fun v7002 => (Option.bind (at? a1 p0_0) fun v7006 => (Option.bind (l_eqShardVar v7002 v7006) fun v7008 => (if (!v7008) = true then (some false) else (l_eqShardVarS_l1 n a0 a1 (IntKind.i64.wrap (p0_0 + 1))))))) else (some true))
def l_eqShardVarS (a0 : List ShardVar) (a1 : List ShardVar) : Option (Bool) :=
  (if (!decide (((List.length a0 : Nat) : Int) = ((List.length a1 : Nat) : Int))) = true then (some false) else (l_eqShardVarS_l1 fuel a0 a1 0))
def l_eqShardRedex (a0 : ShardRedex) (a1 : ShardRedex) : Option (Bool) :=
  (Option.bind (l_eqAddress a0.a a1.a) fun v2004 => (if (!v2004) = true then (some false) else (Option.bind (l_eqAddress a0.b a1.b) fun v4004 => (if (!v4004) = true then (some false) else (some true)))))
def l_eqShardRedexS_l1 : Nat → (List ShardRedex) → (List ShardRedex) → Int → Option (Bool)
  | 0, _, _, _ => none
  | n + 1, a0, a1, p0_0 => (if (decide (p0_0 < ((List.length a0 : Nat) : Int))) = true then (Option.bind (at? a0 p0_0) fun v7002 => (Option.bind (at? a1 p0_0) fun v7006 => (Option.bind (l_eqShardRedex v7002 v7006) fun v7008 => (if (!v7008) = true then (some false) else (l_eqShardRedexS_l1 n a0 a1 (IntKind.i64.wrap (p0_0 + 1))))))) else (some true))
def l_eqShardRedexS (a0 : List ShardRedex) (a1 : List ShardRedex) : Option (Bool) :=
  (if (!decide (((List.length a0 : Nat) : Int) = ((List.length a1 : Nat) : Int))) = true then (some false) else (l_eqShardRedexS_l1 fuel a0 a1 0))
def l_eqShard (a0 : Shard) (a1 : Shard) : Option (Bool) :=
  (Option.bind (l_eqShardCellS a0.cells a1.cells) fun v2004 => (if (!v2004) = true then (some false) else (Option.bind (l_eqShardVarS a0.vars a1.vars) fun v4004 => (if (!v4004) = true then (some false) else (Option.bind (l_eqShardRedexS a0.redexes a1.redexes) fun v6004 => (if (!v6004) = true then (some false) else (some true)))))))
def l_eqShardS_l1 : Nat → (List Shard) → (List Shard) → Int → Option (Bool)
  | 0, _, _, _ => none
  | n + 1, a0, a1, p0_0 => (if (decide (p0_0 < ((List.length a0 : Nat) : Int))) = true then (Option.bind (at? a0 p0_0) fun v7002 => (Option.bind (at? a1 p0_0) fun v7006 => (Option.bind (l_eqShard v7002 v7006) fun v7008 => (if (!v7008) = true then (some false) else (l_eqShardS_l1 n a0 a1 (IntKind.i64.wrap (p0_0 + 1))))))) else (some true))
def l_eqShardS (a0 : List Shard) (a1 : List Shard) : Option (Bool) :=
  (if (!decide (((List.length a0 : Nat) : Int) = ((List.length a1 : Nat) : Int))) = true then (some false) else (l_eqShardS_l1 fuel a0 a1 0))
def l_eqGrid (a0 : Grid) (a1 : Grid) : Option (Bool) :=
  (Option.bind (l_eqShardS a0.shards a1.shards) fun v2004 => (if (!v2004) = true then (some false) else (Option.bind (l_eqAddress a0.root a1.root) fun v4004 => (if (!v4004) = true then (some false) else (some true)))))
def l_eqParcel (a0 : Parcel) (a1 : Parcel) : Option (Bool) :=
  (if (!decide (a0.kind = a1.kind)) = true then (some false) else (Option.bind (l_eqShardCell a0.cell a1.cell) fun v4004 => (if (!v4004) = true then (some false) else (Option.bind (l_eqAddress a0.a a1.a) fun v6004 => (if (!v6004) = true then (some false) else (Option.bind (l_eqAddress a0.b a1.b) fun v8004 => (if (!v8004) = true then (some false) else (some true))))))))
def l_eqParcelS_l1 : Nat → (List Parcel) → (List Parcel) → Int → Option (Bool)
  | 0, _, _, _ => none
  | n + 1, a0, a1, p0_0 => (if (decide (p0_0 < ((List.length a0 : Nat) : Int))) = true then (Option.bind (at? a0 p0_0) fun v7002 => (Option.bind (at? a1 p0_0) fun v7006 => (Option.bind (l_eqParcel v7002 v7006) fun v7008 => (if (!v7008) = true then (some false) else (l_eqParcelS_l1 n a0 a1 (IntKind.i64.wrap (p0_0 + 1))))))) else (some true))
def l_eqParcelS (a0 : List Parcel) (a1 : List Parcel) : Option (Bool) :=
  (if (!decide (((List.length a0 : Nat) : Int) = ((List.length a1 : Nat) : Int))) = true then (some false) else (l_eqParcelS_l1 fuel a0 a1 0))
def l_eqParcelSS_l1 : Nat → (List (List Parcel)) → (List (List Parcel)) → Int → Option (Bool)
  | 0, _, _, _ => none
  | n + 1, a0, a1, p0_0 => (if (decide (p0_0 < ((List.length a0 : Nat) : Int))) = true then (Option.bind (at? a0 p0_0) fun v7002 => (Option.bind (at? a1 p0_0) fun v7006 => (Option.bind (l_eqParcelS v7002 v7006) fun v7008 => (if (!v7008) = true then (some false) else (l_eqParcelSS_l1 n a0 a1 (IntKind.i64.wrap (p0_0 + 1))))))) else (some true))
def l_eqParcelSS (a0 : List (List Parcel)) (a1 : List (List Parcel)) : Option (Bool) :=
  (if (!decide (((List.length a0 : Nat) : Int) = ((List.length a1 : Nat) : Int))) = true then (some false) else (l_eqParcelSS_l1 fuel a0 a1 0))
def l_eqCluster (a0 : Cluster) (a1 : Cluster) : Option (Bool) :=
  (Option.bind (l_eqGrid a0.grid a1.grid) fun v2004 => (if (!v2004) = true then (some false) else (Option.bind (l_eqParcelSS a0.channels a1.channels) fun v4004 => (if (!v4004) = true then (some false) else (Option.bind (l_eqInt64SS a0.counts a1.counts) fun v6004 => (if (!v6004) = true then (some false) else (Option.bind (l_eqInt64S a0.sent a1.sent) fun v8004 => (if (!v8004) = true then (some false) else (Option.bind (l_eqInt64S a0.got a1.got) fun v10004 => (if (!v10004) = true then (some false) else (some true)))))))))))
def l_eqBoolS_l1 : Nat → (List Bool) → (List Bool) → Int → Option (Bool)
  | 0, _, _, _ => none
  | n + 1, a0, a1, p0_0 => (if (decide (p0_0 < ((List.length a0 : Nat) : Int))) = true then (Option.bind (at? a0 p0_0) fun v7002 => (Option.bind (at? a1 p0_0) fun v7006 => (if (!(v7002 == v7006)) = true then (some false) else (l_eqBoolS_l1 n a0 a1 (IntKind.i64.wrap (p0_0 + 1)))))) else (some true))
def l_eqBoolS (a0 : List Bool) (a1 : List Bool) : Option (Bool) :=
  (if (!decide (((List.length a0 : Nat) : Int) = ((List.length a1 : Nat) : Int))) = true then (some false) else (l_eqBoolS_l1 fuel a0 a1 0))
def l_eqShot (a0 : Shot) (a1 : Shot) : Option (Bool) :=
  (Option.bind (l_eqBoolS a0.taken a1.taken) fun v2004 => (if (!v2004) = true then (some false) else (Option.bind (l_eqShardS a0.shards a1.shards) fun v4004 => (if (!v4004) = true then (some false) else (Option.bind (l_eqInt64SS a0.counts a1.counts) fun v6004 => (if (!v6004) = true then (some false) else (Option.bind (l_eqBoolS a0.recording a1.recording) fun v8004 => (if (!v8004) = true then (some false) else (Option.bind (l_eqParcelSS a0.saved a1.saved) fun v10004 => (if (!v10004) = true then (some false) else (some true)))))))))))
def l_eqWatched (a0 : Watched) (a1 : Watched) : Option (Bool) :=
  (Option.bind (l_eqCluster a0.cluster a1.cluster) fun v2004 => (if (!v2004) = true then (some false) else (Option.bind (l_eqShot a0.shot a1.shot) fun v4004 => (if (!v4004) = true then (some false) else (some true)))))
def l_eqService (a0 : Service) (a1 : Service) : Option (Bool) :=
  (Option.bind (l_eqWatched a0.watched a1.watched) fun v2004 => (if (!v2004) = true then (some false) else (Option.bind (l_eqCluster a0.good a1.good) fun v4004 => (if (!v4004) = true then (some false) else (if (!decide (a0.shots = a1.shots)) = true then (some false) else (if (!decide (a0.crashes = a1.crashes)) = true then (some false) else (some true)))))))
def l_FnExactSameService (a0 : Service) (a1 : Service) : Option (Bool) :=
  (Option.bind (l_szService a0 1048576) fun v3002 => (if (decide (v3002 < 0)) = true then (some true) else (Option.bind (l_szService a1 v3002) fun v6002 => (if (decide (v6002 < 0)) = true then (some true) else (Option.bind (l_toService a0) fun v9001 => (Option.bind (l_toService a1) fun v9003 => (Option.bind (s_SameService v9001 v9003) fun v9004 => (Option.bind (l_toService a0) fun v10001 => (Option.bind (l_toService a1) fun v11001 => (Option.bind (i_SameService v10001 v11001) fun v12002 => (if (!(v12002 == v9004)) = true then (some false) else (Option.bind (l_toService a0) fun v15002 => (Option.bind (l_eqService v10001 v15002) fun v15003 => (if (!v15003) = true then (some false) else (Option.bind (l_toService a1) fun v17002 => (Option.bind (l_eqService v11001 v17002) fun v17003 => (if (!v17003) = true then (some false) else (some true))))))))))))))))))
end Go.Proofs.Ytffokcfdkkikmaa.Ab
