/-
  The laws' helpers for the types of this group: sizes, copies, comparisons. Printed by wip/ab/genhelp.py. No program is in sight.
-/
import Derived.Test.YtffokcfdkkikmaaModV
import Derived.Test.YtffokcfdkkikmaaPlG
import Derived.Test.YtffokcfdkkikmaaAbZ
import Derived.Test.YtffokcfdkkikmaaPlG
namespace Go.Proofs.Ytffokcfdkkikmaa.Ab
set_option linter.unusedVariables false
set_option linter.unusedSimpArgs false
open Go.RowKit

structure Address.Ok (x : Address) : Prop where
  machine : (Lit.int IntKind.i64 x.machine).wf = true
  kind : (Lit.int IntKind.i64 x.kind).wf = true
  index : (Lit.int IntKind.i64 x.index).wf = true
theorem Address.ok_of (x : Address) (h : oksC (Address.ds x)) : x.Ok := by
  rw [Address.ds_eq] at h
  simp only [oksC, D.ok, List.length_map] at h
  obtain ⟨h1, h2, h3, -⟩ := h
  exact ⟨h1, h2, h3⟩
theorem Address.eq_iff (x y : Address) : x = y ↔ x.machine = y.machine ∧ x.kind = y.kind ∧ x.index = y.index := by
  cases x; cases y; simp only [Address.mk.injEq]
theorem szAddressS_eq (l : List Address) (hl : l.length ≤ 9223372036854775807) (h : ∀ x ∈ l, x.Ok) (left : Nat) (h1 : left ≤ 1048576) : l_szAddressS l left = some (szr l.length left) := by
  unfold l_szAddressS
  exact sz_here h1 hl fun _ => sz_end
theorem toAddress_eq (x : Address) : l_toAddress x = some x := by
  unfold l_toAddress
  rfl
theorem toAddressS_eq (l : List Address) (hl : l.length ≤ Big) : l_toAddressS l = some l := by
  unfold l_toAddressS
  exact gTo (fun n acc i => l_toAddressS_l2 n l acc i) l_toAddress _ l (fun n acc i => by rw [l_toAddressS_l2]) hl (fun x hx => toAddress_eq x)
theorem eqAddress_tells (x y : Address) : Tells (l_eqAddress x y) (x = y) := by
  unfold l_eqAddress
  exact Tells.iff (tells_ifn dec_iff fun _ => tells_ifn dec_iff fun _ => tells_ifn dec_iff fun _ => tells_true) (by rw [Address.eq_iff]; simp only [and_true])
theorem eqAddressS_tells (l m : List Address) (hl : l.length ≤ Big) : Tells (l_eqAddressS l m) (l = m) := by
  unfold l_eqAddressS
  exact gEqS (fun n i => l_eqAddressS_l1 n l m i) l_eqAddress l m (fun n i => by rw [l_eqAddressS_l1]) hl fun x hx y _ => eqAddress_tells x y
structure ShardCell.Ok (x : ShardCell) : Prop where
  kind : (Lit.int IntKind.i64 x.kind).wf = true
  level : (Lit.int IntKind.i64 x.level).wf = true
  value : (Lit.int IntKind.i64 x.value).wf = true
  data : (x.data.length ≤ 9223372036854775807 ∧ ∀ e ∈ x.data, (Lit.int IntKind.i64 e).wf = true)
  aux : (x.aux.length ≤ 9223372036854775807 ∧ ∀ e ∈ x.aux, Address.Ok e)
theorem ShardCell.ok_of (x : ShardCell) (h : oksC (ShardCell.ds x)) : x.Ok := by
  rw [ShardCell.ds_eq] at h
  simp only [oksC, D.ok, List.length_map] at h
  obtain ⟨h1, h2, h3, h4, h5, -⟩ := h
  exact ⟨h1, h2, h3, ⟨h4.1, fun e he => by have := (oksR_mem h4.2 he); simpa only [i64D, oksC, D.ok, and_true] using this⟩, ⟨h5.1, fun e he => Address.ok_of e (oksR_mem h5.2 he)⟩⟩
theorem ShardCell.eq_iff (x y : ShardCell) : x = y ↔ x.kind = y.kind ∧ x.level = y.level ∧ x.value = y.value ∧ x.data = y.data ∧ x.aux = y.aux := by
  cases x; cases y; simp only [ShardCell.mk.injEq]
def ShardCell.sz (x : ShardCell) : Nat := x.data.length + (x.aux.length + 0)
theorem szShardCell_eq (x : ShardCell) (h : x.Ok) (left : Nat) (h1 : left ≤ 1048576) : l_szShardCell x left = some (szr x.sz left) := by
  unfold l_szShardCell ShardCell.sz
  exact sz_step (szInt64S_eq _ _ (by omega) h.data.1) fun _ => sz_step (szAddressS_eq _ h.aux.1 h.aux.2 _ (by omega)) fun _ => sz_end
theorem szShardCellS_eq (l : List ShardCell) (hl : l.length ≤ 9223372036854775807) (h : ∀ x ∈ l, x.Ok) (left : Nat) (h1 : left ≤ 1048576) : l_szShardCellS l left = some (szr (szl ShardCell.sz l) left) := by
  unfold l_szShardCellS
  exact gSz (fun n p i => l_szShardCellS_l1 n l p i) l_szShardCell ShardCell.sz l (fun n p i => by rw [l_szShardCellS_l1]) left h1 (fun x hx k hk => szShardCell_eq x (h x hx) k hk) hl
theorem toShardCell_eq (x : ShardCell) (h : x.sz ≤ Big) : l_toShardCell x = some x := by
  unfold l_toShardCell
  rw [toInt64S_eq _ (by have := h; simp only [ShardCell.sz] at this; omega), bind_some']
  rw [toAddressS_eq _ (by have := h; simp only [ShardCell.sz] at this; omega), bind_some']
  first | done | rfl
theorem toShardCellS_eq (l : List ShardCell) (hl : szl ShardCell.sz l ≤ Big) : l_toShardCellS l = some l := by
  unfold l_toShardCellS
  exact gTo (fun n acc i => l_toShardCellS_l2 n l acc i) l_toShardCell _ l (fun n acc i => by rw [l_toShardCellS_l2]) (by have := szl_len ShardCell.sz l; omega) (fun x hx => toShardCell_eq x (by have := szl_mem (s := ShardCell.sz) hx; omega))
theorem eqShardCell_tells (x y : ShardCell) (h : x.sz ≤ Big) : Tells (l_eqShardCell x y) (x = y) := by
  unfold l_eqShardCell
  exact Tells.iff (tells_ifn dec_iff fun _ => tells_ifn dec_iff fun _ => tells_ifn dec_iff fun _ => tells_bind_ifn (eqInt64S_tells _ _ (by have := h; simp only [ShardCell.sz] at this; omega)) fun _ => tells_bind_ifn (eqAddressS_tells _ _ (by have := h; simp only [ShardCell.sz] at this; omega)) fun _ => tells_true) (by rw [ShardCell.eq_iff]; simp only [and_true])
theorem eqShardCellS_tells (l m : List ShardCell) (hl : szl ShardCell.sz l ≤ Big) : Tells (l_eqShardCellS l m) (l = m) := by
  unfold l_eqShardCellS
  exact gEqS (fun n i => l_eqShardCellS_l1 n l m i) l_eqShardCell l m (fun n i => by rw [l_eqShardCellS_l1]) (by have := szl_len ShardCell.sz l; omega) fun x hx y _ => eqShardCell_tells x y (by have := szl_mem (s := ShardCell.sz) hx; omega)
structure ShardVar.Ok (x : ShardVar) : Prop where
  held : Address.Ok x.held
theorem ShardVar.ok_of (x : ShardVar) (h : oksC (ShardVar.ds x)) : x.Ok := by
  rw [ShardVar.ds_eq] at h
  simp only [oksC, D.ok, List.length_map] at h
  obtain ⟨h1, h2, h3, h4, h5, -⟩ := h
  exact ⟨Address.ok_of _ (by rw [Address.ds_eq]; simp only [oksC, D.ok, List.length_map]; exact ⟨h3, h4, h5, trivial⟩)⟩
theorem ShardVar.eq_iff (x y : ShardVar) : x = y ↔ x.used = y.used ∧ x.full = y.full ∧ x.held = y.held := by
  cases x; cases y; simp only [ShardVar.mk.injEq]
theorem szShardVarS_eq (l : List ShardVar) (hl : l.length ≤ 9223372036854775807) (h : ∀ x ∈ l, x.Ok) (left : Nat) (h1 : left ≤ 1048576) : l_szShardVarS l left = some (szr l.length left) := by
  unfold l_szShardVarS
  exact sz_here h1 hl fun _ => sz_end
theorem toShardVar_eq (x : ShardVar) : l_toShardVar x = some x := by
  unfold l_toShardVar
  rfl
theorem toShardVarS_eq (l : List ShardVar) (hl : l.length ≤ Big) : l_toShardVarS l = some l := by
  unfold l_toShardVarS
  exact gTo (fun n acc i => l_toShardVarS_l2 n l acc i) l_toShardVar _ l (fun n acc i => by rw [l_toShardVarS_l2]) hl (fun x hx => toShardVar_eq x)
theorem eqShardVar_tells (x y : ShardVar) : Tells (l_eqShardVar x y) (x = y) := by
  unfold l_eqShardVar
  exact Tells.iff (tells_ifn beq_iff_eq fun _ => tells_ifn beq_iff_eq fun _ => tells_bind_ifn (eqAddress_tells _ _) fun _ => tells_true) (by rw [ShardVar.eq_iff]; simp only [and_true])
theorem eqShardVarS_tells (l m : List ShardVar) (hl : l.length ≤ Big) : Tells (l_eqShardVarS l m) (l = m) := by
  unfold l_eqShardVarS
  exact gEqS (fun n i => l_eqShardVarS_l1 n l m i) l_eqShardVar l m (fun n i => by rw [l_eqShardVarS_l1]) hl fun x hx y _ => eqShardVar_tells x y
structure ShardRedex.Ok (x : ShardRedex) : Prop where
  a : Address.Ok x.a
  b : Address.Ok x.b
theorem ShardRedex.ok_of (x : ShardRedex) (h : oksC (ShardRedex.ds x)) : x.Ok := by
  rw [ShardRedex.ds_eq] at h
  simp only [oksC, D.ok, List.length_map] at h
  obtain ⟨h1, h2, h3, h4, h5, h6, -⟩ := h
  exact ⟨Address.ok_of _ (by rw [Address.ds_eq]; simp only [oksC, D.ok, List.length_map]; exact ⟨h1, h2, h3, trivial⟩), Address.ok_of _ (by rw [Address.ds_eq]; simp only [oksC, D.ok, List.length_map]; exact ⟨h4, h5, h6, trivial⟩)⟩
theorem ShardRedex.eq_iff (x y : ShardRedex) : x = y ↔ x.a = y.a ∧ x.b = y.b := by
  cases x; cases y; simp only [ShardRedex.mk.injEq]
theorem szShardRedexS_eq (l : List ShardRedex) (hl : l.length ≤ 9223372036854775807) (h : ∀ x ∈ l, x.Ok) (left : Nat) (h1 : left ≤ 1048576) : l_szShardRedexS l left = some (szr l.length left) := by
  unfold l_szShardRedexS
  exact sz_here h1 hl fun _ => sz_end
theorem toShardRedex_eq (x : ShardRedex) : l_toShardRedex x = some x := by
  unfold l_toShardRedex
  rfl
theorem toShardRedexS_eq (l : List ShardRedex) (hl : l.length ≤ Big) : l_toShardRedexS l = some l := by
  unfold l_toShardRedexS
  exact gTo (fun n acc i => l_toShardRedexS_l2 n l acc i) l_toShardRedex _ l (fun n acc i => by rw [l_toShardRedexS_l2]) hl (fun x hx => toShardRedex_eq x)
theorem eqShardRedex_tells (x y : ShardRedex) : Tells (l_eqShardRedex x y) (x = y) := by
  unfold l_eqShardRedex
  exact Tells.iff (tells_bind_ifn (eqAddress_tells _ _) fun _ => tells_bind_ifn (eqAddress_tells _ _) fun _ => tells_true) (by rw [ShardRedex.eq_iff]; simp only [and_true])
theorem eqShardRedexS_tells (l m : List ShardRedex) (hl : l.length ≤ Big) : Tells (l_eqShardRedexS l m) (l = m) := by
  unfold l_eqShardRedexS
  exact gEqS (fun n i => l_eqShardRedexS_l1 n l m i) l_eqShardRedex l m (fun n i => by rw [l_eqShardRedexS_l1]) hl fun x hx y _ => eqShardRedex_tells x y
structure Shard.Ok (x : Shard) : Prop where
  cells : (x.cells.length ≤ 9223372036854775807 ∧ ∀ e ∈ x.cells, ShardCell.Ok e)
  vars : (x.vars.length ≤ 9223372036854775807 ∧ ∀ e ∈ x.vars, ShardVar.Ok e)
  redexes : (x.redexes.length ≤ 9223372036854775807 ∧ ∀ e ∈ x.redexes, ShardRedex.Ok e)
theorem Shard.ok_of (x : Shard) (h : oksC (Shard.ds x)) : x.Ok := by
  rw [Shard.ds_eq] at h
  simp only [oksC, D.ok, List.length_map] at h
  obtain ⟨h1, h2, h3, -⟩ := h
  exact ⟨⟨h1.1, fun e he => ShardCell.ok_of e (oksR_mem h1.2 he)⟩, ⟨h2.1, fun e he => ShardVar.ok_of e (oksR_mem h2.2 he)⟩, ⟨h3.1, fun e he => ShardRedex.ok_of e (oksR_mem h3.2 he)⟩⟩
theorem Shard.eq_iff (x y : Shard) : x = y ↔ x.cells = y.cells ∧ x.vars = y.vars ∧ x.redexes = y.redexes := by
  cases x; cases y; simp only [Shard.mk.injEq]
def Shard.sz (x : Shard) : Nat := szl ShardCell.sz x.cells + (x.vars.length + (x.redexes.length + 0))
theorem szShard_eq (x : Shard) (h : x.Ok) (left : Nat) (h1 : left ≤ 1048576) : l_szShard x left = some (szr x.sz left) := by
  unfold l_szShard Shard.sz
  exact sz_step (szShardCellS_eq _ h.cells.1 h.cells.2 _ (by omega)) fun _ => sz_step (szShardVarS_eq _ h.vars.1 h.vars.2 _ (by omega)) fun _ => sz_step (szShardRedexS_eq _ h.redexes.1 h.redexes.2 _ (by omega)) fun _ => sz_end
theorem szShardS_eq (l : List Shard) (hl : l.length ≤ 9223372036854775807) (h : ∀ x ∈ l, x.Ok) (left : Nat) (h1 : left ≤ 1048576) : l_szShardS l left = some (szr (szl Shard.sz l) left) := by
  unfold l_szShardS
  exact gSz (fun n p i => l_szShardS_l1 n l p i) l_szShard Shard.sz l (fun n p i => by rw [l_szShardS_l1]) left h1 (fun x hx k hk => szShard_eq x (h x hx) k hk) hl
theorem toShard_eq (x : Shard) (h : x.sz ≤ Big) : l_toShard x = some x := by
  unfold l_toShard
  rw [toShardCellS_eq _ (by have := h; simp only [Shard.sz] at this; omega), bind_some']
  rw [toShardVarS_eq _ (by have := h; simp only [Shard.sz] at this; omega), bind_some']
  rw [toShardRedexS_eq _ (by have := h; simp only [Shard.sz] at this; omega), bind_some']
  first | done | rfl
theorem toShardS_eq (l : List Shard) (hl : szl Shard.sz l ≤ Big) : l_toShardS l = some l := by
  unfold l_toShardS
  exact gTo (fun n acc i => l_toShardS_l2 n l acc i) l_toShard _ l (fun n acc i => by rw [l_toShardS_l2]) (by have := szl_len Shard.sz l; omega) (fun x hx => toShard_eq x (by have := szl_mem (s := Shard.sz) hx; omega))
theorem eqShard_tells (x y : Shard) (h : x.sz ≤ Big) : Tells (l_eqShard x y) (x = y) := by
  unfold l_eqShard
  exact Tells.iff (tells_bind_ifn (eqShardCellS_tells _ _ (by have := h; simp only [Shard.sz] at this; omega)) fun _ => tells_bind_ifn (eqShardVarS_tells _ _ (by have := h; simp only [Shard.sz] at this; omega)) fun _ => tells_bind_ifn (eqShardRedexS_tells _ _ (by have := h; simp only [Shard.sz] at this; omega)) fun _ => tells_true) (by rw [Shard.eq_iff]; simp only [and_true])
theorem eqShardS_tells (l m : List Shard) (hl : szl Shard.sz l ≤ Big) : Tells (l_eqShardS l m) (l = m) := by
  unfold l_eqShardS
  exact gEqS (fun n i => l_eqShardS_l1 n l m i) l_eqShard l m (fun n i => by rw [l_eqShardS_l1]) (by have := szl_len Shard.sz l; omega) fun x hx y _ => eqShard_tells x y (by have := szl_mem (s := Shard.sz) hx; omega)
structure Grid.Ok (x : Grid) : Prop where
  shards : (x.shards.length ≤ 9223372036854775807 ∧ ∀ e ∈ x.shards, Shard.Ok e)
  root : Address.Ok x.root
theorem Grid.ok_of (x : Grid) (h : oksC (Grid.ds x)) : x.Ok := by
  rw [Grid.ds_eq] at h
  simp only [oksC, D.ok, List.length_map] at h
  obtain ⟨h1, h2, h3, h4, -⟩ := h
  exact ⟨⟨h1.1, fun e he => Shard.ok_of e (oksR_mem h1.2 he)⟩, Address.ok_of _ (by rw [Address.ds_eq]; simp only [oksC, D.ok, List.length_map]; exact ⟨h2, h3, h4, trivial⟩)⟩
theorem Grid.eq_iff (x y : Grid) : x = y ↔ x.shards = y.shards ∧ x.root = y.root := by
  cases x; cases y; simp only [Grid.mk.injEq]
def Grid.sz (x : Grid) : Nat := szl Shard.sz x.shards + 0
theorem szGrid_eq (x : Grid) (h : x.Ok) (left : Nat) (h1 : left ≤ 1048576) : l_szGrid x left = some (szr x.sz left) := by
  unfold l_szGrid Grid.sz
  exact sz_step (szShardS_eq _ h.shards.1 h.shards.2 _ (by omega)) fun _ => sz_end
theorem toGrid_eq (x : Grid) (h : x.sz ≤ Big) : l_toGrid x = some x := by
  unfold l_toGrid
  rw [toShardS_eq _ (by have := h; simp only [Grid.sz] at this; omega), bind_some']
  rw [toAddress_eq _, bind_some']
  first | done | rfl
theorem eqGrid_tells (x y : Grid) (h : x.sz ≤ Big) : Tells (l_eqGrid x y) (x = y) := by
  unfold l_eqGrid
  exact Tells.iff (tells_bind_ifn (eqShardS_tells _ _ (by have := h; simp only [Grid.sz] at this; omega)) fun _ => tells_bind_ifn (eqAddress_tells _ _) fun _ => tells_true) (by rw [Grid.eq_iff]; simp only [and_true])
structure Parcel.Ok (x : Parcel) : Prop where
  kind : (Lit.int IntKind.i64 x.kind).wf = true
  cell : ShardCell.Ok x.cell
  a : Address.Ok x.a
  b : Address.Ok x.b
theorem Parcel.ok_of (x : Parcel) (h : oksC (Parcel.ds x)) : x.Ok := by
  rw [Parcel.ds_eq] at h
  simp only [oksC, D.ok, List.length_map] at h
  obtain ⟨h1, h2, h3, h4, h5, h6, h7, h8, h9, h10, h11, h12, -⟩ := h
  exact ⟨h1, ShardCell.ok_of _ (by rw [ShardCell.ds_eq]; simp only [oksC, D.ok, List.length_map]; exact ⟨h2, h3, h4, h5, h6, trivial⟩), Address.ok_of _ (by rw [Address.ds_eq]; simp only [oksC, D.ok, List.length_map]; exact ⟨h7, h8, h9, trivial⟩), Address.ok_of _ (by rw [Address.ds_eq]; simp only [oksC, D.ok, List.length_map]; exact ⟨h10, h11, h12, trivial⟩)⟩
theorem Parcel.eq_iff (x y : Parcel) : x = y ↔ x.kind = y.kind ∧ x.cell = y.cell ∧ x.a = y.a ∧ x.b = y.b := by
  cases x; cases y; simp only [Parcel.mk.injEq]
def Parcel.sz (x : Parcel) : Nat := x.cell.sz + 0
theorem szParcel_eq (x : Parcel) (h : x.Ok) (left : Nat) (h1 : left ≤ 1048576) : l_szParcel x left = some (szr x.sz left) := by
  unfold l_szParcel Parcel.sz
  exact sz_step (szShardCell_eq _ h.cell _ (by omega)) fun _ => sz_end
theorem szParcelS_eq (l : List Parcel) (hl : l.length ≤ 9223372036854775807) (h : ∀ x ∈ l, x.Ok) (left : Nat) (h1 : left ≤ 1048576) : l_szParcelS l left = some (szr (szl Parcel.sz l) left) := by
  unfold l_szParcelS
  exact gSz (fun n p i => l_szParcelS_l1 n l p i) l_szParcel Parcel.sz l (fun n p i => by rw [l_szParcelS_l1]) left h1 (fun x hx k hk => szParcel_eq x (h x hx) k hk) hl
theorem toParcel_eq (x : Parcel) (h : x.sz ≤ Big) : l_toParcel x = some x := by
  unfold l_toParcel
  rw [toShardCell_eq _ (by have := h; simp only [Parcel.sz] at this; omega), bind_some']
  rw [toAddress_eq _, bind_some']
  rw [toAddress_eq _, bind_some']
  first | done | rfl
theorem toParcelS_eq (l : List Parcel) (hl : szl Parcel.sz l ≤ Big) : l_toParcelS l = some l := by
  unfold l_toParcelS
  exact gTo (fun n acc i => l_toParcelS_l2 n l acc i) l_toParcel _ l (fun n acc i => by rw [l_toParcelS_l2]) (by have := szl_len Parcel.sz l; omega) (fun x hx => toParcel_eq x (by have := szl_mem (s := Parcel.sz) hx; omega))
theorem eqParcel_tells (x y : Parcel) (h : x.sz ≤ Big) : Tells (l_eqParcel x y) (x = y) := by
  unfold l_eqParcel
  exact Tells.iff (tells_ifn dec_iff fun _ => tells_bind_ifn (eqShardCell_tells _ _ (by have := h; simp only [Parcel.sz] at this; omega)) fun _ => tells_bind_ifn (eqAddress_tells _ _) fun _ => tells_bind_ifn (eqAddress_tells _ _) fun _ => tells_true) (by rw [Parcel.eq_iff]; simp only [and_true])
theorem eqParcelS_tells (l m : List Parcel) (hl : szl Parcel.sz l ≤ Big) : Tells (l_eqParcelS l m) (l = m) := by
  unfold l_eqParcelS
  exact gEqS (fun n i => l_eqParcelS_l1 n l m i) l_eqParcel l m (fun n i => by rw [l_eqParcelS_l1]) (by have := szl_len Parcel.sz l; omega) fun x hx y _ => eqParcel_tells x y (by have := szl_mem (s := Parcel.sz) hx; omega)
theorem szParcelSS_eq (l : List (List Parcel)) (hl : l.length ≤ 9223372036854775807) (h : ∀ x ∈ l, (x.length ≤ 9223372036854775807 ∧ ∀ e ∈ x, Parcel.Ok e)) (left : Nat) (h1 : left ≤ 1048576) : l_szParcelSS l left = some (szr (szl (szl Parcel.sz) l) left) := by
  unfold l_szParcelSS
  exact gSz (fun n p i => l_szParcelSS_l1 n l p i) l_szParcelS (szl Parcel.sz) l (fun n p i => by rw [l_szParcelSS_l1]) left h1 (fun x hx k hk => szParcelS_eq x (h x hx).1 (h x hx).2 k hk) hl
theorem toParcelSS_eq (l : List (List Parcel)) (hl : szl (szl Parcel.sz) l ≤ Big) : l_toParcelSS l = some l := by
  unfold l_toParcelSS
  exact gTo (fun n acc i => l_toParcelSS_l2 n l acc i) l_toParcelS _ l (fun n acc i => by rw [l_toParcelSS_l2]) (by have := szl_len (szl Parcel.sz) l; omega) (fun x hx => toParcelS_eq x (by have := szl_mem (s := (szl Parcel.sz)) hx; omega))
theorem eqParcelSS_tells (l m : List (List Parcel)) (hl : szl (szl Parcel.sz) l ≤ Big) : Tells (l_eqParcelSS l m) (l = m) := by
  unfold l_eqParcelSS
  exact gEqS (fun n i => l_eqParcelSS_l1 n l m i) l_eqParcelS l m (fun n i => by rw [l_eqParcelSS_l1]) (by have := szl_len (szl Parcel.sz) l; omega) fun x hx y _ => eqParcelS_tells x y (by have := szl_mem (s := (szl Parcel.sz)) hx; omega)
theorem szInt64SS_eq (l : List (List Int)) (hl : l.length ≤ 9223372036854775807) (h : ∀ x ∈ l, (x.length ≤ 9223372036854775807 ∧ ∀ e ∈ x, (Lit.int IntKind.i64 e).wf = true)) (left : Nat) (h1 : left ≤ 1048576) : l_szInt64SS l left = some (szr (szl List.length l) left) := by
  unfold l_szInt64SS
  exact gSz (fun n p i => l_szInt64SS_l1 n l p i) l_szInt64S List.length l (fun n p i => by rw [l_szInt64SS_l1]) left h1 (fun x hx k hk => szInt64S_eq x k hk (h x hx).1) hl
theorem toInt64SS_eq (l : List (List Int)) (hl : szl List.length l ≤ Big) : l_toInt64SS l = some l := by
  unfold l_toInt64SS
  exact gTo (fun n acc i => l_toInt64SS_l2 n l acc i) l_toInt64S _ l (fun n acc i => by rw [l_toInt64SS_l2]) (by have := szl_len List.length l; omega) (fun x hx => toInt64S_eq x (by have := szl_mem (s := List.length) hx; omega))
theorem eqInt64SS_tells (l m : List (List Int)) (hl : szl List.length l ≤ Big) : Tells (l_eqInt64SS l m) (l = m) := by
  unfold l_eqInt64SS
  exact gEqS (fun n i => l_eqInt64SS_l1 n l m i) l_eqInt64S l m (fun n i => by rw [l_eqInt64SS_l1]) (by have := szl_len List.length l; omega) fun x hx y _ => eqInt64S_tells x y (by have := szl_mem (s := List.length) hx; omega)
structure Cluster.Ok (x : Cluster) : Prop where
  grid : Grid.Ok x.grid
  channels : (x.channels.length ≤ 9223372036854775807 ∧ ∀ e ∈ x.channels, (e.length ≤ 9223372036854775807 ∧ ∀ ee ∈ e, Parcel.Ok ee))
  counts : (x.counts.length ≤ 9223372036854775807 ∧ ∀ e ∈ x.counts, (e.length ≤ 9223372036854775807 ∧ ∀ ee ∈ e, (Lit.int IntKind.i64 ee).wf = true))
  sent : (x.sent.length ≤ 9223372036854775807 ∧ ∀ e ∈ x.sent, (Lit.int IntKind.i64 e).wf = true)
  got : (x.got.length ≤ 9223372036854775807 ∧ ∀ e ∈ x.got, (Lit.int IntKind.i64 e).wf = true)
theorem Cluster.ok_of (x : Cluster) (h : oksC (Cluster.ds x)) : x.Ok := by
  rw [Cluster.ds_eq] at h
  simp only [oksC, D.ok, List.length_map] at h
  obtain ⟨h1, h2, h3, h4, h5, h6, h7, h8, -⟩ := h
  exact ⟨Grid.ok_of _ (by rw [Grid.ds_eq]; simp only [oksC, D.ok, List.length_map]; exact ⟨h1, h2, h3, h4, trivial⟩), ⟨h5.1, fun e he => by have := (oksR_mem h5.2 he); simp only [slD, oksC, D.ok, List.length_map] at this; exact ⟨this.1.1, fun e he => Parcel.ok_of e (oksR_mem this.1.2 he)⟩⟩, ⟨h6.1, fun e he => by have := (oksR_mem h6.2 he); simp only [slD, oksC, D.ok, List.length_map] at this; exact ⟨this.1.1, fun e he => by have := (oksR_mem this.1.2 he); simpa only [i64D, oksC, D.ok, and_true] using this⟩⟩, ⟨h7.1, fun e he => by have := (oksR_mem h7.2 he); simpa only [i64D, oksC, D.ok, and_true] using this⟩, ⟨h8.1, fun e he => by have := (oksR_mem h8.2 he); simpa only [i64D, oksC, D.ok, and_true] using this⟩⟩
theorem Cluster.eq_iff (x y : Cluster) : x = y ↔ x.grid = y.grid ∧ x.channels = y.channels ∧ x.counts = y.counts ∧ x.sent = y.sent ∧ x.got = y.got := by
  cases x; cases y; simp only [Cluster.mk.injEq]
def Cluster.sz (x : Cluster) : Nat := x.grid.sz + (szl (szl Parcel.sz) x.channels + (szl List.length x.counts + (x.sent.length + (x.got.length + 0))))
theorem szCluster_eq (x : Cluster) (h : x.Ok) (left : Nat) (h1 : left ≤ 1048576) : l_szCluster x left = some (szr x.sz left) := by
  unfold l_szCluster Cluster.sz
  exact sz_step (szGrid_eq _ h.grid _ (by omega)) fun _ => sz_step (szParcelSS_eq _ h.channels.1 h.channels.2 _ (by omega)) fun _ => sz_step (szInt64SS_eq _ h.counts.1 h.counts.2 _ (by omega)) fun _ => sz_step (szInt64S_eq _ _ (by omega) h.sent.1) fun _ => sz_step (szInt64S_eq _ _ (by omega) h.got.1) fun _ => sz_end
theorem toCluster_eq (x : Cluster) (h : x.sz ≤ Big) : l_toCluster x = some x := by
  unfold l_toCluster
  rw [toGrid_eq _ (by have := h; simp only [Cluster.sz] at this; omega), bind_some']
  rw [toParcelSS_eq _ (by have := h; simp only [Cluster.sz] at this; omega), bind_some']
  rw [toInt64SS_eq _ (by have := h; simp only [Cluster.sz] at this; omega), bind_some']
  rw [toInt64S_eq _ (by have := h; simp only [Cluster.sz] at this; omega), bind_some']
  rw [toInt64S_eq _ (by have := h; simp only [Cluster.sz] at this; omega), bind_some']
  first | done | rfl
theorem eqCluster_tells (x y : Cluster) (h : x.sz ≤ Big) : Tells (l_eqCluster x y) (x = y) := by
  unfold l_eqCluster
  exact Tells.iff (tells_bind_ifn (eqGrid_tells _ _ (by have := h; simp only [Cluster.sz] at this; omega)) fun _ => tells_bind_ifn (eqParcelSS_tells _ _ (by have := h; simp only [Cluster.sz] at this; omega)) fun _ => tells_bind_ifn (eqInt64SS_tells _ _ (by have := h; simp only [Cluster.sz] at this; omega)) fun _ => tells_bind_ifn (eqInt64S_tells _ _ (by have := h; simp only [Cluster.sz] at this; omega)) fun _ => tells_bind_ifn (eqInt64S_tells _ _ (by have := h; simp only [Cluster.sz] at this; omega)) fun _ => tells_true) (by rw [Cluster.eq_iff]; simp only [and_true])
theorem szBoolS_eq (l : List Bool) (hl : l.length ≤ 9223372036854775807) (h : ∀ x ∈ l, True) (left : Nat) (h1 : left ≤ 1048576) : l_szBoolS l left = some (szr l.length left) := by
  unfold l_szBoolS
  exact sz_here h1 hl fun _ => sz_end
theorem toBoolS_eq (l : List Bool) (hl : l.length ≤ Big) : l_toBoolS l = some l := by
  unfold l_toBoolS
  exact gTo (fun n acc i => l_toBoolS_l2 n l acc i) some _ l (fun n acc i => by rw [l_toBoolS_l2]; rfl) hl (fun x hx => rfl)
theorem eqBoolS_tells (l m : List Bool) (hl : l.length ≤ Big) : Tells (l_eqBoolS l m) (l = m) := by
  unfold l_eqBoolS
  exact gEqS (fun n i => l_eqBoolS_l1 n l m i) (fun x y => some (x == y)) l m (fun n i => by rw [l_eqBoolS_l1]; rfl) hl fun x hx y _ => .mk beq_iff_eq
structure Shot.Ok (x : Shot) : Prop where
  taken : (x.taken.length ≤ 9223372036854775807 ∧ ∀ e ∈ x.taken, True)
  shards : (x.shards.length ≤ 9223372036854775807 ∧ ∀ e ∈ x.shards, Shard.Ok e)
  counts : (x.counts.length ≤ 9223372036854775807 ∧ ∀ e ∈ x.counts, (e.length ≤ 9223372036854775807 ∧ ∀ ee ∈ e, (Lit.int IntKind.i64 ee).wf = true))
  recording : (x.recording.length ≤ 9223372036854775807 ∧ ∀ e ∈ x.recording, True)
  saved : (x.saved.length ≤ 9223372036854775807 ∧ ∀ e ∈ x.saved, (e.length ≤ 9223372036854775807 ∧ ∀ ee ∈ e, Parcel.Ok ee))
theorem Shot.ok_of (x : Shot) (h : oksC (Shot.ds x)) : x.Ok := by
  rw [Shot.ds_eq] at h
  simp only [oksC, D.ok, List.length_map] at h
  obtain ⟨h1, h2, h3, h4, h5, -⟩ := h
  exact ⟨⟨h1.1, fun e he => trivial⟩, ⟨h2.1, fun e he => Shard.ok_of e (oksR_mem h2.2 he)⟩, ⟨h3.1, fun e he => by have := (oksR_mem h3.2 he); simp only [slD, oksC, D.ok, List.length_map] at this; exact ⟨this.1.1, fun e he => by have := (oksR_mem this.1.2 he); simpa only [i64D, oksC, D.ok, and_true] using this⟩⟩, ⟨h4.1, fun e he => trivial⟩, ⟨h5.1, fun e he => by have := (oksR_mem h5.2 he); simp only [slD, oksC, D.ok, List.length_map] at this; exact ⟨this.1.1, fun e he => Parcel.ok_of e (oksR_mem this.1.2 he)⟩⟩⟩
theorem Shot.eq_iff (x y : Shot) : x = y ↔ x.taken = y.taken ∧ x.shards = y.shards ∧ x.counts = y.counts ∧ x.recording = y.recording ∧ x.saved = y.saved := by
  cases x; cases y; simp only [Shot.mk.injEq]
def Shot.sz (x : Shot) : Nat := x.taken.length + (szl Shard.sz x.shards + (szl List.length x.counts + (x.recording.length + (szl (szl Parcel.sz) x.saved + 0))))
theorem szShot_eq (x : Shot) (h : x.Ok) (left : Nat) (h1 : left ≤ 1048576) : l_szShot x left = some (szr x.sz left) := by
  unfold l_szShot Shot.sz
  exact sz_step (szBoolS_eq _ h.taken.1 h.taken.2 _ (by omega)) fun _ => sz_step (szShardS_eq _ h.shards.1 h.shards.2 _ (by omega)) fun _ => sz_step (szInt64SS_eq _ h.counts.1 h.counts.2 _ (by omega)) fun _ => sz_step (szBoolS_eq _ h.recording.1 h.recording.2 _ (by omega)) fun _ => sz_step (szParcelSS_eq _ h.saved.1 h.saved.2 _ (by omega)) fun _ => sz_end
theorem toShot_eq (x : Shot) (h : x.sz ≤ Big) : l_toShot x = some x := by
  unfold l_toShot
  rw [toBoolS_eq _ (by have := h; simp only [Shot.sz] at this; omega), bind_some']
  rw [toShardS_eq _ (by have := h; simp only [Shot.sz] at this; omega), bind_some']
  rw [toInt64SS_eq _ (by have := h; simp only [Shot.sz] at this; omega), bind_some']
  rw [toBoolS_eq _ (by have := h; simp only [Shot.sz] at this; omega), bind_some']
  rw [toParcelSS_eq _ (by have := h; simp only [Shot.sz] at this; omega), bind_some']
  first | done | rfl
theorem eqShot_tells (x y : Shot) (h : x.sz ≤ Big) : Tells (l_eqShot x y) (x = y) := by
  unfold l_eqShot
  exact Tells.iff (tells_bind_ifn (eqBoolS_tells _ _ (by have := h; simp only [Shot.sz] at this; omega)) fun _ => tells_bind_ifn (eqShardS_tells _ _ (by have := h; simp only [Shot.sz] at this; omega)) fun _ => tells_bind_ifn (eqInt64SS_tells _ _ (by have := h; simp only [Shot.sz] at this; omega)) fun _ => tells_bind_ifn (eqBoolS_tells _ _ (by have := h; simp only [Shot.sz] at this; omega)) fun _ => tells_bind_ifn (eqParcelSS_tells _ _ (by have := h; simp only [Shot.sz] at this; omega)) fun _ => tells_true) (by rw [Shot.eq_iff]; simp only [and_true])
structure Watched.Ok (x : Watched) : Prop where
  cluster : Cluster.Ok x.cluster
  shot : Shot.Ok x.shot
theorem Watched.ok_of (x : Watched) (h : oksC (Watched.ds x)) : x.Ok := by
  rw [Watched.ds_eq] at h
  simp only [oksC, D.ok, List.length_map] at h
  obtain ⟨h1, h2, h3, h4, h5, h6, h7, h8, h9, h10, h11, h12, h13, -⟩ := h
  exact ⟨Cluster.ok_of _ (by rw [Cluster.ds_eq]; simp only [oksC, D.ok, List.length_map]; exact ⟨h1, h2, h3, h4, h5, h6, h7, h8, trivial⟩), Shot.ok_of _ (by rw [Shot.ds_eq]; simp only [oksC, D.ok, List.length_map]; exact ⟨h9, h10, h11, h12, h13, trivial⟩)⟩
theorem Watched.eq_iff (x y : Watched) : x = y ↔ x.cluster = y.cluster ∧ x.shot = y.shot := by
  cases x; cases y; simp only [Watched.mk.injEq]
def Watched.sz (x : Watched) : Nat := x.cluster.sz + (x.shot.sz + 0)
theorem szWatched_eq (x : Watched) (h : x.Ok) (left : Nat) (h1 : left ≤ 1048576) : l_szWatched x left = some (szr x.sz left) := by
  unfold l_szWatched Watched.sz
  exact sz_step (szCluster_eq _ h.cluster _ (by omega)) fun _ => sz_step (szShot_eq _ h.shot _ (by omega)) fun _ => sz_end
theorem toWatched_eq (x : Watched) (h : x.sz ≤ Big) : l_toWatched x = some x := by
  unfold l_toWatched
  rw [toCluster_eq _ (by have := h; simp only [Watched.sz] at this; omega), bind_some']
  rw [toShot_eq _ (by have := h; simp only [Watched.sz] at this; omega), bind_some']
  first | done | rfl
theorem eqWatched_tells (x y : Watched) (h : x.sz ≤ Big) : Tells (l_eqWatched x y) (x = y) := by
  unfold l_eqWatched
  exact Tells.iff (tells_bind_ifn (eqCluster_tells _ _ (by have := h; simp only [Watched.sz] at this; omega)) fun _ => tells_bind_ifn (eqShot_tells _ _ (by have := h; simp only [Watched.sz] at this; omega)) fun _ => tells_true) (by rw [Watched.eq_iff]; simp only [and_true])
structure Service.Ok (x : Service) : Prop where
  watched : Watched.Ok x.watched
  good : Cluster.Ok x.good
  shots : (Lit.int IntKind.i64 x.shots).wf = true
  crashes : (Lit.int IntKind.i64 x.crashes).wf = true
theorem Service.ok_of (x : Service) (h : oksC (Service.ds x)) : x.Ok := by
  rw [Service.ds_eq] at h
  simp only [oksC, D.ok, List.length_map] at h
  obtain ⟨h1, h2, h3, h4, h5, h6, h7, h8, h9, h10, h11, h12, h13, h14, h15, h16, h17, h18, h19, h20, h21, h22, h23, -⟩ := h
  exact ⟨Watched.ok_of _ (by rw [Watched.ds_eq]; simp only [oksC, D.ok, List.length_map]; exact ⟨h1, h2, h3, h4, h5, h6, h7, h8, h9, h10, h11, h12, h13, trivial⟩), Cluster.ok_of _ (by rw [Cluster.ds_eq]; simp only [oksC, D.ok, List.length_map]; exact ⟨h14, h15, h16, h17, h18, h19, h20, h21, trivial⟩), h22, h23⟩
theorem Service.eq_iff (x y : Service) : x = y ↔ x.watched = y.watched ∧ x.good = y.good ∧ x.shots = y.shots ∧ x.crashes = y.crashes := by
  cases x; cases y; simp only [Service.mk.injEq]
def Service.sz (x : Service) : Nat := x.watched.sz + (x.good.sz + 0)
theorem szService_eq (x : Service) (h : x.Ok) (left : Nat) (h1 : left ≤ 1048576) : l_szService x left = some (szr x.sz left) := by
  unfold l_szService Service.sz
  exact sz_step (szWatched_eq _ h.watched _ (by omega)) fun _ => sz_step (szCluster_eq _ h.good _ (by omega)) fun _ => sz_end
theorem toService_eq (x : Service) (h : x.sz ≤ Big) : l_toService x = some x := by
  unfold l_toService
  rw [toWatched_eq _ (by have := h; simp only [Service.sz] at this; omega), bind_some']
  rw [toCluster_eq _ (by have := h; simp only [Service.sz] at this; omega), bind_some']
  first | done | rfl
theorem eqService_tells (x y : Service) (h : x.sz ≤ Big) : Tells (l_eqService x y) (x = y) := by
  unfold l_eqService
  exact Tells.iff (tells_bind_ifn (eqWatched_tells _ _ (by have := h; simp only [Service.sz] at this; omega)) fun _ => tells_bind_ifn (eqCluster_tells _ _ (by have := h; simp only [Service.sz] at this; omega)) fun _ => tells_ifn dec_iff fun _ => tells_ifn dec_iff fun _ => tells_true) (by rw [Service.eq_iff]; simp only [and_true])
end Go.Proofs.Ytffokcfdkkikmaa.Ab
