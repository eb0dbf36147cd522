/-
  Services compared: both sides tell whether they are the same. No program is in sight.
-/
import Derived.Test.YtffokcfdkkikmaaPlTV
namespace Go.Proofs.Ytffokcfdkkikmaa.Ab
set_option linter.unusedVariables false
set_option linter.unusedSimpArgs false
open Go.RowKit

theorem addr_iff {x y : Address} : (decide (x.machine = y.machine) && (decide (x.kind = y.kind) && decide (x.index = y.index))) = true ↔ x = y := by
  rw [Address.eq_iff]; simp
theorem var_iff {x y : ShardVar} : (x.used == y.used && (x.full == y.full && (decide (x.held.machine = y.held.machine) && (decide (x.held.kind = y.held.kind) && decide (x.held.index = y.held.index))))) = true ↔ x = y := by
  rw [ShardVar.eq_iff, Bool.and_eq_true, Bool.and_eq_true, addr_iff]; simp
theorem redex_iff {x y : ShardRedex} : (decide (x.a.machine = y.a.machine) && (decide (x.a.kind = y.a.kind) && (decide (x.a.index = y.a.index) && (decide (x.b.machine = y.b.machine) && (decide (x.b.kind = y.b.kind) && decide (x.b.index = y.b.index)))))) = true ↔ x = y := by
  rw [ShardRedex.eq_iff, Address.eq_iff, Address.eq_iff]; simp [and_assoc]
/-! ### Lists -/
theorem vSame_tells (l m : List Int) (hl : l.length ≤ Big) : Tells (s_l00Same l m) (l = m) := by
  unfold s_l00Same
  exact gEqS (fun n i => s_l00Same_l1 n l m i) (fun x y => some (decide (x = y))) l m (fun n i => by rw [s_l00Same_l1]; rfl) hl fun x _ y _ => .mk dec_iff
theorem vEqual_tells (l m : List Int) (hl : l.length ≤ Big) : Tells (g_Equal_sint64 l m) (l = m) := by
  unfold g_Equal_sint64
  exact gEqS (fun n i => g_Equal_sint64_l1 n l m i) (fun x y => some (decide (x = y))) l m (fun n i => by rw [g_Equal_sint64_l1]; rfl) hl fun x _ y _ => .mk dec_iff
theorem sBools_tells (l m : List Bool) (hl : l.length ≤ Big) : Tells (s_l30SameBools l m) (l = m) := by
  unfold s_l30SameBools
  exact gEqS (fun n i => s_l30SameBools_l1 n l m i) (fun x y => some (x == y)) l m (fun n i => by rw [s_l30SameBools_l1]; rfl) hl fun x _ y _ => .mk beq_iff_eq
theorem iBools_tells (l m : List Bool) (hl : l.length ≤ Big) : Tells (g_Equal_sbool l m) (l = m) := by
  unfold g_Equal_sbool
  exact gEqS (fun n i => g_Equal_sbool_l1 n l m i) (fun x y => some (x == y)) l m (fun n i => by rw [g_Equal_sbool_l1]; rfl) hl fun x _ y _ => .mk beq_iff_eq
theorem sAddrs_tells (l m : List Address) (hl : l.length ≤ Big) : Tells (s_l27SameAddresses l m) (l = m) := by
  unfold s_l27SameAddresses
  exact gEqS (fun n i => s_l27SameAddresses_l1 n l m i) (fun x y => some (decide (x.machine = y.machine) && (decide (x.kind = y.kind) && decide (x.index = y.index)))) l m (fun n i => by rw [s_l27SameAddresses_l1]; rfl) hl fun x _ y _ => .mk addr_iff
theorem iAddrs_tells (l m : List Address) (hl : l.length ≤ Big) : Tells (g_Equal_simpl_Address l m) (l = m) := by
  unfold g_Equal_simpl_Address
  exact gEqS (fun n i => g_Equal_simpl_Address_l1 n l m i) (fun x y => some (decide (x.machine = y.machine) && (decide (x.kind = y.kind) && decide (x.index = y.index)))) l m (fun n i => by rw [g_Equal_simpl_Address_l1]; rfl) hl fun x _ y _ => .mk addr_iff
theorem iVars_tells (l m : List ShardVar) (hl : l.length ≤ Big) : Tells (g_Equal_simpl_ShardVar l m) (l = m) := by
  unfold g_Equal_simpl_ShardVar
  exact gEqS (fun n i => g_Equal_simpl_ShardVar_l1 n l m i) (fun x y => some (x.used == y.used && (x.full == y.full && (decide (x.held.machine = y.held.machine) && (decide (x.held.kind = y.held.kind) && decide (x.held.index = y.held.index)))))) l m (fun n i => by rw [g_Equal_simpl_ShardVar_l1]; rfl) hl fun x _ y _ => .mk var_iff
theorem iRedexes_tells (l m : List ShardRedex) (hl : l.length ≤ Big) : Tells (g_Equal_simpl_ShardRedex l m) (l = m) := by
  unfold g_Equal_simpl_ShardRedex
  exact gEqS (fun n i => g_Equal_simpl_ShardRedex_l1 n l m i) (fun x y => some (decide (x.a.machine = y.a.machine) && (decide (x.a.kind = y.a.kind) && (decide (x.a.index = y.a.index) && (decide (x.b.machine = y.b.machine) && (decide (x.b.kind = y.b.kind) && decide (x.b.index = y.b.index))))))) l m (fun n i => by rw [g_Equal_simpl_ShardRedex_l1]; rfl) hl fun x _ y _ => .mk redex_iff
theorem sLists_tells (l m : List (List Int)) (hl : szl List.length l ≤ Big) : Tells (s_l29SameLists l m) (l = m) := by
  have h0 := szl_len List.length l
  unfold s_l29SameLists
  exact gEqS (fun n i => s_l29SameLists_l1 n l m i) _ l m (fun n i => by rw [s_l29SameLists_l1]) (by omega) fun x hx y _ => vSame_tells x y (by have := szl_mem (s := List.length) hx; omega)
theorem iLists_tells (l m : List (List Int)) (hl : szl List.length l ≤ Big) : Tells (g_EqualFunc_ssint64 l m fun y0 y1 => g_Equal_sint64 y0 y1) (l = m) := by
  have h0 := szl_len List.length l
  unfold g_EqualFunc_ssint64
  exact gEqS (fun n i => g_EqualFunc_ssint64_l1 n l m i _) _ l m (fun n i => by rw [g_EqualFunc_ssint64_l1]) (by omega) fun x hx y _ => vEqual_tells x y (by have := szl_mem (s := List.length) hx; omega)
/-! ### Cells, shards -/
theorem sCell_tells (x y : ShardCell) (h : x.sz ≤ Big) : Tells (s_l27SameCell x y) (x = y) := by
  simp only [ShardCell.sz] at h
  unfold s_l27SameCell
  exact (tells_if dec_iff fun _ => tells_if dec_iff fun _ => tells_if dec_iff fun _ => tells_bind_if (vSame_tells _ _ (by omega)) fun _ => tells_bind_some (sAddrs_tells _ _ (by omega))).iff (by rw [ShardCell.eq_iff])
theorem iCell_tells (x y : ShardCell) (h : x.sz ≤ Big) : Tells (i_sameShardCell x y) (x = y) := by
  simp only [ShardCell.sz] at h
  unfold i_sameShardCell
  exact (tells_if dec_iff fun _ => tells_if dec_iff fun _ => tells_if dec_iff fun _ => tells_bind_if (vEqual_tells _ _ (by omega)) fun _ => tells_bind_some (iAddrs_tells _ _ (by omega))).iff (by rw [ShardCell.eq_iff])
theorem iShard_tells (x y : Shard) (h : x.sz ≤ Big) : Tells (i_SameShard x y) (x = y) := by
  simp only [Shard.sz] at h
  have h0 := szl_len ShardCell.sz x.cells
  unfold i_SameShard g_EqualFunc_simpl_ShardCell
  exact (tells_bind_if (gEqS (fun n i => g_EqualFunc_simpl_ShardCell_l1 n x.cells y.cells i _) _ _ _ (fun n i => by rw [g_EqualFunc_simpl_ShardCell_l1]) (by omega) fun a ha b _ => iCell_tells a b (by have := szl_mem (s := ShardCell.sz) ha; omega)) fun _ => tells_bind_if (iVars_tells _ _ (by omega)) fun _ => tells_bind_some (iRedexes_tells _ _ (by omega))).iff (by rw [Shard.eq_iff])
theorem sShard_tells (x y : Shard) (h : x.sz ≤ Big) : Tells (s_SameShard x y) (x = y) := by
  simp only [Shard.sz] at h
  have h0 := szl_len ShardCell.sz x.cells
  unfold s_SameShard
  simp only [s_SameShard_j1, eq_self, reduceIte]
  refine (tells_ifn len_iff fun e1 => tells_ifn len_iff fun e2 => tells_ifn len_iff fun e3 => gTellF (fun n i => s_SameShard_l3 n x y i) x.cells y.cells ShardCell.sz 1 1 (x.vars = y.vars ∧ x.redexes = y.redexes ∧ True) (fun n i a b q h1 h2 h3 ha hn hq => ?_) (fun n => ?_) (by omega) e1 fuel (by rw [fuel_eq]; unfold Big at h; omega)).iff (by rw [Shard.eq_iff]; exact ⟨fun ⟨_, _, _, a, b, c, _⟩ => ⟨a, b, c⟩, fun ⟨a, b, c⟩ => ⟨by rw [a], by rw [b], by rw [c], a, b, c, trivial⟩⟩)
  · have := szl_mem (s := ShardCell.sz) ha
    show Tells (s_SameShard_l3 (n + 1) x y i) (a = b ∧ q)
    rw [s_SameShard_l3, if_pos h1, h2, bind_some', h3, bind_some']
    exact tells_bind_ifn (sCell_tells a b (by omega)) fun _ => hq
  · show Tells (s_SameShard_l3 (n + 1) x y _) _
    rw [s_SameShard_l3, if_neg (by simp)]
    refine gTellF (fun n i => s_SameShard_l5 n x y i) x.vars y.vars (fun _ => 0) 0 1 (x.redexes = y.redexes ∧ True) (fun n i a b q h1 h2 h3 ha hn hq => ?_) (fun n => ?_) (by omega) e2 fuel (by rw [fuel_eq, szl_zero]; unfold Big at h; omega)
    · show Tells (s_SameShard_l5 (n + 1) x y i) (a = b ∧ q)
      rw [s_SameShard_l5, if_pos h1, h2, bind_some', h3, bind_some']
      exact tells_ifn var_iff fun _ => hq
    · show Tells (s_SameShard_l5 (n + 1) x y _) _
      rw [s_SameShard_l5, if_neg (by simp)]
      refine gTellF (fun n i => s_SameShard_l7 n x y i) x.redexes y.redexes (fun _ => 0) 0 1 True (fun n i a b q h1 h2 h3 ha hn hq => ?_) (fun n => ?_) (by omega) e3 fuel (by rw [fuel_eq, szl_zero]; unfold Big at h; omega)
      · show Tells (s_SameShard_l7 (n + 1) x y i) (a = b ∧ q)
        rw [s_SameShard_l7, if_pos h1, h2, bind_some', h3, bind_some']
        exact tells_ifn redex_iff fun _ => hq
      · show Tells (s_SameShard_l7 (n + 1) x y _) True
        rw [s_SameShard_l7, if_neg (by simp)]; exact tells_true
theorem iShards_tells (l m : List Shard) (h : szl Shard.sz l ≤ Big) : Tells (g_EqualFunc_simpl_Shard l m fun y0 y1 => i_SameShard y0 y1) (l = m) := by
  have h0 := szl_len Shard.sz l
  unfold g_EqualFunc_simpl_Shard
  exact gEqS (fun n i => g_EqualFunc_simpl_Shard_l1 n l m i _) _ l m (fun n i => by rw [g_EqualFunc_simpl_Shard_l1]) (by omega) fun a ha b _ => iShard_tells a b (by have := szl_mem (s := Shard.sz) ha; omega)
/-! ### Grids -/
theorem iGrid_tells (x y : Grid) (h : x.sz ≤ Big) : Tells (i_SameGrid x y) (x = y) := by
  simp only [Grid.sz] at h
  unfold i_SameGrid
  exact (tells_if addr_iff fun _ => tells_bind_some (iShards_tells _ _ (by omega))).iff (by rw [Grid.eq_iff]; exact and_comm)
theorem sGrid_tells (x y : Grid) (h : x.sz ≤ Big) : Tells (s_SameGrid x y) (x = y) := by
  simp only [Grid.sz] at h
  have h0 := szl_len Shard.sz x.shards
  unfold s_SameGrid
  simp only [s_SameGrid_j1, eq_self, reduceIte]
  refine (tells_ifn addr_iff fun _ => tells_ifn len_iff fun e1 => gEq (fun n i => s_SameGrid_l3 n x y i) s_SameShard x.shards y.shards (fun n i => by rw [s_SameGrid_l3]) (by omega) e1 fun a ha b _ => sShard_tells a b (by have := szl_mem (s := Shard.sz) ha; omega)).iff (by rw [Grid.eq_iff]; exact ⟨fun ⟨a, _, b⟩ => ⟨b, a⟩, fun ⟨b, a⟩ => ⟨a, by rw [b], b⟩⟩)
/-! ### Parcels, channels -/
theorem iParcel_tells (x y : Parcel) (h : x.sz ≤ Big) : Tells (i_sameParcel x y) (x = y) := by
  simp only [Parcel.sz] at h
  unfold i_sameParcel
  exact (tells_if dec_iff fun _ => tells_if addr_iff fun _ => tells_if addr_iff fun _ => tells_bind_some (iCell_tells _ _ (by omega))).iff (by rw [Parcel.eq_iff]; exact ⟨fun ⟨a, b, c, d⟩ => ⟨a, d, b, c⟩, fun ⟨a, d, b, c⟩ => ⟨a, b, c, d⟩⟩)
theorem sParcel_tells (x y : Parcel) (h : x.sz ≤ Big) : Tells (s_l29SameParcel x y) (x = y) := by
  simp only [Parcel.sz] at h
  unfold s_l29SameParcel
  exact (tells_if dec_iff fun _ => tells_bind_if (sCell_tells _ _ (by omega)) fun _ => tells_if addr_iff fun _ => .mk addr_iff).iff (by rw [Parcel.eq_iff])
theorem iParcels_tells (l m : List Parcel) (h : szl Parcel.sz l ≤ Big) : Tells (i_sameParcels l m) (l = m) := by
  have h0 := szl_len Parcel.sz l
  unfold i_sameParcels g_EqualFunc_simpl_Parcel
  exact tells_bind_some (gEqS (fun n i => g_EqualFunc_simpl_Parcel_l1 n l m i _) _ l m (fun n i => by rw [g_EqualFunc_simpl_Parcel_l1]) (by omega) fun a ha b _ => iParcel_tells a b (by have := szl_mem (s := Parcel.sz) ha; omega))
theorem iChannels_tells (l m : List (List Parcel)) (h : szl (szl Parcel.sz) l ≤ Big) : Tells (g_EqualFunc_ssimpl_Parcel l m fun y0 y1 => i_sameParcels y0 y1) (l = m) := by
  have h0 := szl_len (szl Parcel.sz) l
  unfold g_EqualFunc_ssimpl_Parcel
  exact gEqS (fun n i => g_EqualFunc_ssimpl_Parcel_l1 n l m i _) _ l m (fun n i => by rw [g_EqualFunc_ssimpl_Parcel_l1]) (by omega) fun a ha b _ => iParcels_tells a b (by have := szl_mem (s := szl Parcel.sz) ha; omega)
theorem chan4 {a0 a1 : List (List Parcel)} {i : Int} {x y : List Parcel} (hx : at? a0 i = some x) (hy : at? a1 i = some y) (hlen : x.length = y.length) {R : Prop} {N : Nat} (hR : ∀ n, N ≤ n → Tells (s_l29SameChannels_l3 n a0 a1 (IntKind.i64.wrap (i + 1))) R) (hsz : szl Parcel.sz x ≤ Big) :
    ∀ (post pre post' pre' : List Parcel) (n : Nat), x = pre ++ post → y = pre' ++ post' → pre.length = pre'.length → post.length + 1 + N ≤ n → Tells (s_l29SameChannels_l4 n a0 a1 i ((List.length pre : Nat) : Int)) (post = post' ∧ R) := by
  have hl : x.length ≤ Big := by have := szl_len Parcel.sz x; omega
  intro post
  induction post with
  | nil =>
    intro pre post' pre' n h h' hpp hn
    obtain ⟨n, rfl⟩ : ∃ m, n = m + 1 := ⟨n - 1, by omega⟩
    obtain rfl : post' = [] := List.eq_nil_of_length_eq_zero (by rw [h, h'] at hlen; simp at hlen; omega)
    rw [s_l29SameChannels_l4, hx, bind_some', ge_app h]
    exact (hR n (by simp at hn; omega)).iff (by simp)
  | cons p post ih =>
    intro pre post' pre' n h h' hpp hn
    obtain ⟨n, rfl⟩ : ∃ m, n = m + 1 := ⟨n - 1, by omega⟩
    cases post' with
    | nil => rw [h, h'] at hlen; simp at hlen; omega
    | cons q post' =>
      rw [s_l29SameChannels_l4, hx, bind_some', if_pos (lt_app h), bind_some', at_app h, bind_some', hy, bind_some', hpp, at_app h', bind_some', ← hpp, wrap_app h hl]
      refine (tells_bind_ifn (sParcel_tells p q (by have := szl_mem (s := Parcel.sz) (x := p) (l := x) (by rw [h]; simp); omega)) fun _ => ih (pre ++ [p]) post' (pre' ++ [q]) n (next_app h) (next_app h') (by simp [hpp]) (by simp at hn; omega)).iff ?_
      simp [and_assoc]
theorem szl_three {α : Type} {s t : α → Nat} (h : ∀ x, s x ≤ t x + 2) : ∀ l : List α, szl s l ≤ 3 * szl t l
  | [] => by simp [szl]
  | x :: l => by have := szl_three h l; have := h x; simp only [szl]; omega
theorem sChannels_tells (l m : List (List Parcel)) (h : szl (szl Parcel.sz) l ≤ Big) : Tells (s_l29SameChannels l m) (l = m) := by
  have hl : l.length ≤ Big := by have := szl_len (szl Parcel.sz) l; omega
  unfold s_l29SameChannels
  refine (tells_ifn len_iff fun hlen => (?_ : Tells _ (l = m))).iff ⟨fun k => k.2, fun k => ⟨by rw [k], k⟩⟩
  have loop : ∀ (post pre post' pre' : List (List Parcel)) (n : Nat), l = pre ++ post → m = pre' ++ post' → pre.length = pre'.length → szl (fun x => List.length x + 2) post + 1 ≤ n → Tells (s_l29SameChannels_l3 n l m ((List.length pre : Nat) : Int)) (post = post') := by
    intro post
    induction post with
    | nil =>
      intro pre post' pre' n h h' hpp hn
      obtain ⟨n, rfl⟩ : ∃ m, n = m + 1 := ⟨n - 1, by omega⟩
      obtain rfl : post' = [] := List.eq_nil_of_length_eq_zero (by rw [h, h'] at hlen; simp at hlen; omega)
      rw [s_l29SameChannels_l3, ge_app h]
      exact .mk (by simp)
    | cons x post ih =>
      intro pre post' pre' n h1 h' hpp hn
      obtain ⟨n, rfl⟩ : ∃ m, n = m + 1 := ⟨n - 1, by omega⟩
      cases post' with
      | nil => rw [h1, h'] at hlen; simp at hlen; omega
      | cons y post' =>
        have hx := at_app h1
        have hy : at? m ((List.length pre : Nat) : Int) = some y := by rw [hpp]; exact at_app h'
        simp only [szl] at hn
        rw [s_l29SameChannels_l3, if_pos (lt_app h1), hx, bind_some', hy, bind_some']
        refine (tells_ifn len_iff fun hxy => chan4 hx hy hxy (N := szl (fun x => List.length x + 2) post + 1) (R := post = post') (fun k hk => ?_) (by have := szl_mem (s := szl Parcel.sz) (x := x) (l := l) (by rw [h1]; simp); omega) x [] y [] n rfl rfl rfl (by omega)).iff ?_
        · rw [wrap_app h1 hl]
          exact ih (pre ++ [x]) post' (pre' ++ [y]) k (next_app h1) (next_app h') (by simp [hpp]) hk
        · constructor
          · rintro ⟨_, rfl, rfl⟩; rfl
          · intro e; cases e; exact ⟨rfl, rfl, rfl⟩
  refine loop l [] m [] fuel rfl rfl rfl ?_
  have := szl_three (s := fun x : List Parcel => List.length x + 2) (t := szl Parcel.sz) (fun x => by have := szl_len Parcel.sz x; show List.length x + 2 ≤ _; omega) l
  rw [fuel_eq]; unfold Big at h; omega
/-! ### Clusters, snapshots, services -/
theorem iCluster_tells (x y : Cluster) (h : x.sz ≤ Big) : Tells (i_SameCluster x y) (x = y) := by
  simp only [Cluster.sz] at h
  unfold i_SameCluster
  exact (tells_bind_if (iGrid_tells _ _ (by omega)) fun _ => tells_bind_if (iChannels_tells _ _ (by omega)) fun _ => tells_bind_if (iLists_tells _ _ (by omega)) fun _ => tells_bind_if (vEqual_tells _ _ (by omega)) fun _ => tells_bind_some (vEqual_tells _ _ (by omega))).iff (by rw [Cluster.eq_iff])
theorem sCluster_tells (x y : Cluster) (h : x.sz ≤ Big) : Tells (s_SameCluster x y) (x = y) := by
  simp only [Cluster.sz] at h
  unfold s_SameCluster
  exact (tells_bind_if (sGrid_tells _ _ (by omega)) fun _ => tells_bind_if (sChannels_tells _ _ (by omega)) fun _ => tells_bind_if (sLists_tells _ _ (by omega)) fun _ => tells_bind_if (vSame_tells _ _ (by omega)) fun _ => tells_bind_some (vSame_tells _ _ (by omega))).iff (by rw [Cluster.eq_iff])
theorem iShot_tells (x y : Shot) (h : x.sz ≤ Big) : Tells (i_sameShot x y) (x = y) := by
  simp only [Shot.sz] at h
  unfold i_sameShot
  exact (tells_bind_if (iBools_tells _ _ (by omega)) fun _ => tells_bind_if (iShards_tells _ _ (by omega)) fun _ => tells_bind_if (iLists_tells _ _ (by omega)) fun _ => tells_bind_if (iBools_tells _ _ (by omega)) fun _ => tells_bind_some (iChannels_tells _ _ (by omega))).iff (by rw [Shot.eq_iff])
theorem sShot_tells (x y : Shot) (h : x.sz ≤ Big) : Tells (s_l30SameShot x y) (x = y) := by
  simp only [Shot.sz] at h
  have h0 := szl_len Shard.sz x.shards
  unfold s_l30SameShot
  refine (tells_ifn len_iff fun e1 => gTellF (fun n i => s_l30SameShot_l1 n x y i) x.shards y.shards Shard.sz 1 1 (x.taken = y.taken ∧ x.counts = y.counts ∧ x.recording = y.recording ∧ x.saved = y.saved) (fun n i a b q h1 h2 h3 ha hn hq => ?_) (fun n => ?_) (by omega) e1 fuel (by rw [fuel_eq]; unfold Big at h; omega)).iff (by rw [Shot.eq_iff]; exact ⟨fun ⟨_, a, b, c, d, e⟩ => ⟨b, a, c, d, e⟩, fun ⟨b, a, c, d, e⟩ => ⟨by rw [a], a, b, c, d, e⟩⟩)
  · have := szl_mem (s := Shard.sz) ha
    show Tells (s_l30SameShot_l1 (n + 1) x y i) (a = b ∧ q)
    rw [s_l30SameShot_l1, if_pos h1, h2, bind_some', h3, bind_some']
    exact tells_bind_ifn (sShard_tells a b (by omega)) fun _ => hq
  · show Tells (s_l30SameShot_l1 (n + 1) x y _) _
    rw [s_l30SameShot_l1, if_neg (by simp)]
    exact tells_bind_if (sBools_tells _ _ (by omega)) fun _ => tells_bind_if (sLists_tells _ _ (by omega)) fun _ => tells_bind_if (sBools_tells _ _ (by omega)) fun _ => tells_bind_some (sChannels_tells _ _ (by omega))
theorem iWatched_tells (x y : Watched) (h : x.sz ≤ Big) : Tells (i_SameWatched x y) (x = y) := by
  simp only [Watched.sz] at h
  unfold i_SameWatched
  exact (tells_bind_if (iCluster_tells _ _ (by omega)) fun _ => tells_bind_some (iShot_tells _ _ (by omega))).iff (by rw [Watched.eq_iff])
theorem sWatched_tells (x y : Watched) (h : x.sz ≤ Big) : Tells (s_SameWatched x y) (x = y) := by
  simp only [Watched.sz] at h
  unfold s_SameWatched
  exact (tells_bind_if (sCluster_tells _ _ (by omega)) fun _ => tells_bind_some (sShot_tells _ _ (by omega))).iff (by rw [Watched.eq_iff])
theorem iService_tells (x y : Service) (h : x.sz ≤ Big) : Tells (i_SameService x y) (x = y) := by
  simp only [Service.sz] at h
  unfold i_SameService
  exact (tells_bind_if (iWatched_tells _ _ (by omega)) fun _ => tells_bind_if (iCluster_tells _ _ (by omega)) fun _ => tells_if dec_iff fun _ => .mk dec_iff).iff (by rw [Service.eq_iff])
theorem sService_tells (x y : Service) (h : x.sz ≤ Big) : Tells (s_SameService x y) (x = y) := by
  simp only [Service.sz] at h
  unfold s_SameService
  exact (tells_bind_if (sWatched_tells _ _ (by omega)) fun _ => tells_bind_if (sCluster_tells _ _ (by omega)) fun _ => tells_if dec_iff fun _ => .mk dec_iff).iff (by rw [Service.eq_iff])
theorem SameService_same (x y : Service) (hx : x.sz ≤ 1048576) (hy : y.sz ≤ 1048576) : ∃ r, s_SameService x y = some r ∧ i_SameService x y = some r ∧ True := by
  have h : x.sz ≤ Big := by unfold Big; omega
  obtain ⟨b, hb, -⟩ := sService_tells x y h
  exact ⟨b, hb, by rw [(iService_tells x y h).eq (sService_tells x y h), hb], trivial⟩
end Go.Proofs.Ytffokcfdkkikmaa.Ab
