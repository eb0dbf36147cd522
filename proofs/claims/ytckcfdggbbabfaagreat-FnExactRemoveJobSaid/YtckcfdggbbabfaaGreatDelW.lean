/-
  slices.Delete of one element, over []Job: what the walk asks of it. The walk of its text is turned from the kit's at []int.
-/
import Derived.Test.YtckcfdggbbabfaaGreatManD
import Derived.Test.YtckcfdggbbabfaaGreatTi2
import Derived.Test.YtckcfdggbbabfaaGreatAbY
import Derived.Shelf.GgSortFunc.RowK
import Derived.Shelf.RegionOpenPlain
import Derived.WalkKit
import Derived.Deep.LoopGhost
import Derived.Deep.RegionLaw
import Derived.Lib.Walk
import Derived.Lib.SliceRun
namespace Go.Proofs.YtckcfdggbbabfaaGreat.Ab
set_option linter.unusedVariables false
set_option linter.unusedSimpArgs false
open Go Go.Proofs Go.RowKit Go.Shelf Go.Sort Go.Lib
theorem run_clear_cells {P : Program} (w : World) (t e ty : TypeId) (z : Value) (ht : P.underlying t = some (.slice e)) (hv : ∀ w, (zeroValue e).run P w = .ok z w) (zs : List Value) (b o n c : Nat) (hzs : (Builtin.zeroCells z.cells n).toList = zs) (h1 : ∀ v ∈ zs, v.oneCell' = true) (hn : 0 < n)
  (hc : ∀ j, j < zs.length → (w.cell? ⟨b, o + j, none⟩).isSome = true) (hf : ∀ j, j < zs.length → w.frozen? ⟨b, o + j, none⟩ = false) :
  (Builtin.clear_ #[t] ty #[.slice (some ⟨b, o, none⟩) n c]).run P w = .ok (.tuple #[]) (w.setCells b o zs) := by
 have hst := run_storeCells_cells (P := P) b o zs 0 w (by simpa using hc) (by simpa using hf) h1
 simp only [Nat.add_zero] at hst
 obtain ⟨m, rfl⟩ : ∃ m, n = m + 1 := ⟨n - 1, by omega⟩
 simp [Builtin.clear_, run_underlying ht, hv, hzs, hst]
theorem tJ : Tryz.prog.underlying 33 = some (.slice 92) := by kernel_rfl
def zJ : Value := .agg #[.int .i64 0, .int .i64 0, .int .i64 0, .int .i64 0, .int .i64 0, .int .i64 0, .slice none 0 0, .slice none 0 0, .slice none 0 0, .slice none 0 0]
def zcs : List Value := [.int .i64 0, .int .i64 0, .int .i64 0, .int .i64 0, .int .i64 0, .int .i64 0, .slice none 0 0, .slice none 0 0, .slice none 0 0, .slice none 0 0]
theorem zcJ : (Builtin.zeroCells zJ.cells 1).toList = zcs := by kernel_rfl
theorem infoJ : (Tryz.prog.info? 92).map (fun i => (i.zero, i.size)) = some (some zJ, 10) := by kernel_rfl
theorem info_J : ∃ i0, Tryz.prog.info? 92 = some i0 ∧ i0.zero = some zJ ∧ i0.size = 10 := by
 obtain ⟨i, hi, hzz⟩ := Option.map_eq_some_iff.1 infoJ
 simp only [Prod.mk.injEq] at hzz
 exact ⟨i, hi, hzz.1, hzz.2⟩
theorem vJ (w : World) : (zeroValue 92).run Tryz.prog w = .ok zJ w := by
 obtain ⟨i0, hi, hz, -⟩ := info_J
 simp [zeroValue, typeInfo, hi, hz]
set_option maxHeartbeats 4000000 in
set_option maxRecDepth 1000000 in
theorem del_walk (blk off cap n i : Nat) (F : Array Value) (w : World) (hH : Holds id w blk off F) (hF : F.size = n * 10) (hone : ∀ u ∈ F.toList, u.oneCell' = true) (hcap : n ≤ cap) (hm : cap ≤ 9223372036854775807) (hi : i < n) :
  Calls Tryz.prog 102 #[.slice (some ⟨blk, off, none⟩) n cap, .int .i64 (i : Int), .int .i64 ((i + 1 : Nat) : Int)] w fun e w' =>
   e = .returned (.slice (some ⟨blk, off, none⟩) (n - 1) cap) ∧ ∃ q F', w' = putRow id (Sort.ahead w q) blk off F' ∧ F'.size = n * 10 ∧ ∀ t, t < (n - 1) * 10 → F'[t]! = if t < i * 10 then F[t]! else F[t + 10]! := by
 obtain ⟨i0, hi0, hz0, hz1⟩ := info_J
 have t33 := tJ
 obtain ⟨news, hnews⟩ : ∃ news, news = F.toList.drop ((i + 1) * 10) := ⟨_, rfl⟩
 have hlen : news.length = (n - (i + 1)) * 10 := by rw [hnews, List.length_drop, Array.length_toList, hF]; omega
 have hget : ∀ t, t < (n - (i + 1)) * 10 → news[t]? = some (F[(i + 1) * 10 + t]!) := by
  intro t ht
  rw [hnews, List.getElem?_drop, Array.getElem?_toList, getElem!_pos F ((i + 1) * 10 + t) (by omega), Array.getElem?_eq_getElem (by omega)]
 obtain ⟨A, hA, hsrc⟩ : ∃ A : Addr, (if cap = i + 1 then some (⟨blk, off, none⟩ : Addr) else some ⟨blk, off + (i + 1) * 10, none⟩) = some A ∧ Hid (∀ t u, news[t]? = some u → w.drew.cell? (A.add t) = some u) := by
  by_cases h : cap = i + 1
  ·refine ⟨⟨blk, off, none⟩, by simp [h], fun t u hu => ?_⟩
   have h0 : news.length = 0 := by rw [hlen]; omega
   rw [List.length_eq_zero_iff.1 h0] at hu
   simp at hu
  ·refine ⟨⟨blk, off + (i + 1) * 10, none⟩, by simp [h], fun t u hu => ?_⟩
   have ht : t < (n - (i + 1)) * 10 := by
    have := (List.getElem?_eq_some_iff.1 hu).1
    rwa [hlen] at this
   rw [hget t ht] at hu
   rw [Addr.add_lit, show off + (i + 1) * 10 + t = off + ((i + 1) * 10 + t) by omega, ← Option.some.inj hu]
   exact (hH ((i + 1) * 10 + t) (by omega)).1
 have s1 : Hid (news.length = (n - (i + 1)) * 10) := hlen
 have s2 : Hid (∀ u ∈ news, u.oneCell' = true) := by
  intro u hu
  rw [hnews] at hu
  exact hone u (List.mem_of_mem_drop hu)
 have s3 : Hid (∀ t, t < news.length → (w.drew.cell? ⟨blk, off + i * 10 + t, none⟩).isSome = true ∧ w.drew.frozen? ⟨blk, off + i * 10 + t, none⟩ = false) := by
  intro t ht
  rw [hlen] at ht
  rw [Nat.add_assoc]
  exact ⟨by show (w.cell? _).isSome = true; rw [(hH (i * 10 + t) (by omega)).1]; rfl, (hH (i * 10 + t) (by omega)).2⟩
 obtain ⟨W1, hW1⟩ : ∃ W1, W1 = w.drew.setCells blk (off + i * 10) news := ⟨_, rfl⟩
 have hW1' : W1 = putRow id (Sort.ahead w 1) blk off (setMany F (i * 10) news) := by
  rw [hW1, ← setCells_putRow (Sort.ahead w 1) blk off news (i * 10) F (by omega), putRow_self id (Sort.ahead w 1) blk off F (holds_ahead id w 1 blk off F hH)]
  rfl
 have hH1 : Holds id W1 blk off (setMany F (i * 10) news) := by rw [hW1']; exact holds_putRow id _ blk off F _ (holds_ahead id w 1 blk off F hH) (by rw [size_setMany])
 have hcl : ∀ ty, (Builtin.clear_ #[33] ty #[.slice (some ⟨blk, off + (i + (n - (i + 1))) * 10, none⟩) (n - (i + (n - (i + 1)))) (cap - (i + (n - (i + 1))))]).run Tryz.prog W1 = .ok (.tuple #[]) (W1.setCells blk (off + (i + (n - (i + 1))) * 10) zcs) :=
  fun ty => run_clear_cells W1 _ _ ty _ tJ vJ zcs blk _ _ _ (by rw [show n - (i + (n - (i + 1))) = 1 by omega]; exact zcJ) (by decide) (by omega) (fun t ht => by
   have ht' : t < 10 := ht
   rw [Nat.add_assoc, (hH1 _ (by rw [size_setMany]; omega)).1]; rfl) (fun t ht => by
   have ht' : t < 10 := ht
   rw [Nat.add_assoc]; exact (hH1 _ (by rw [size_setMany]; omega)).2)
 have X : Aside (W1 = putRow id (Sort.ahead w 1) blk off (setMany F (i * 10) news)) := hW1'
 have hW : Hid (W1 = w.drew.setCells blk (off + i * 10) news) := hW1
 have hG : Hid (∀ t, t < (n - (i + 1)) * 10 → news[t]? = some (F[(i + 1) * 10 + t]!)) := hget
 have hic : i ≤ cap := by omega
 have hjc : i + 1 ≤ cap := by omega
 have hij : ¬ i = i + 1 := by omega
 have hb1 : (0 : Int) ≤ (i : Int) + 1 := by omega
 have hb2 : (i : Int) + 1 ≤ (n : Int) := by omega
 have mixed := Ab.mixed
 clear hW1 hW1' hH1 hH hget hnews hlen hone
 go_enter Tryz.func102, Tryz.ntmps102
 go_wp2_with fail
 go_region_law_o (refine step_append_room rfl (.tmp 22) (.tmp 25) 33 rfl 92 i0 10 t33 hi0 hz1 blk off i cap (by simp [Act.eval, Act.put]) A (n - (i + 1)) (cap - (i + 1)) news (by simp [Act.eval, Act.put]) s1.out hsrc.out s2.out (by omega) s3.out ?_; rw [← hW.out])
 go_wp2
 go_ret
 refine ⟨by rw [show n - 1 = i + (n - (i + 1)) by omega]; rfl, 1, setMany (setMany F (i * 10) news) ((i + (n - (i + 1))) * 10) zcs, ?_, by rw [size_setMany, size_setMany]; exact hF, ?_⟩
 ·rw [← setCells_putRow _ _ _ _ _ _ (by rw [size_setMany]; show _ + 10 ≤ _; omega), ← X.out]
 ·intro t ht
  have e10 : zcs.length = 10 := rfl
  rw [get_setMany _ _ _ _ (by rw [size_setMany]; omega), get_setMany _ _ _ _ (by omega), if_neg (by omega), s1.out]
  by_cases h : t < i * 10
  ·rw [if_neg (by omega), if_pos h]
  ·rw [if_pos (by omega), if_neg h]
   have := hG.out (t - i * 10) (by omega)
   rw [getElem!_def, this, show (i + 1) * 10 + (t - i * 10) = t + 10 by omega]
section
variable {V w : World}
theorem OwnR.parts {cs : List Value} {sz : Nat} : ∀ {xs ys : List (List D)} {o : Nat} {fp : List Nat}, OwnR V w cs sz o (xs ++ ys) fp → ∃ f1 f2, OwnR V w cs sz o xs f1 ∧ OwnR V w cs sz (o + xs.length * sz) ys f2 ∧ fp = f1 ++ f2
 | [], ys, o, fp, h => ⟨[], fp, by simp only [OwnR], by simpa using h, rfl⟩
 | x :: xs, ys, o, fp, h => by
  simp only [List.cons_append, OwnR] at h
  obtain ⟨f1, f2, hl, hc, hr, rfl⟩ := h
  obtain ⟨g1, g2, h1, h2, rfl⟩ := OwnR.parts hr
  refine ⟨f1 ++ g1, g2, ?_, ?_, by rw [List.append_assoc]⟩
  ·simp only [OwnR]; exact ⟨f1, g1, hl, hc, h1, rfl⟩
  ·rw [show o + (x :: xs).length * sz = o + sz + xs.length * sz from by rw [List.length_cons, Nat.add_mul]; omega]; exact h2
end
section
variable {cx : Cx} {γ : Gh} {w w' : World}
theorem tok_new {T : Nat → Option Tok} {B : Nat → Option (List AV)} {W : Nat → Prop} {t n : Nat} {tk tk' : Tok} {v : Value} {fp : List Nat} (hs : OSim cx γ T B w) (htl : γ.tl t) (hTt : T t = some tk)
  (hW : ∀ g, W g → g ∈ γ.tf t) (hfp : ∀ g ∈ fp, g ∈ γ.tf t) (hnd : fp.Nodup) (hc : Chg w w' W) (hok : TokOk γ.vw w' tk' v fp) (hn : ¬ γ.tl n) :
  OSim cx (γ.tok w' n v fp tk'.gen) (fun x => if x = n then some tk' else none) B w' := by
 have hs0 : OSim cx γ (fun _ => none) B w := hs.tables (fun _ _ _ h => by cases h) fun _ _ _ h => h
 have hfr : ∀ g ∈ γ.tf t, Free cx γ (fun _ => none) B g := fun g hg => ⟨fun _ _ _ h => (by cases h), fun b vs h1 h2 e => hs.btd b t vs tk h1 htl h2 hTt (by rw [e]; exact hg), hs.tfr t tk htl hTt g hg, hs.vw.t t tk htl hTt g hg⟩
 have hs1 := hs0.change hc fun g hg => hfr g (hW g hg)
 exact hs1.putTok (t := n) (tk := tk') rfl (fun hl => absurd hl hn) hok hnd (fun g hg => hfr g (hfp g hg)) (fun hl => absurd hl hn) (fun hl => absurd hl hn)
end
theorem pc_get {off : Nat} {d : Array Value} {c : Array Value} (h : off + d.size ≤ c.size) {j : Nat} (hj : j < d.size) : (putCells id off d c)[off + j]? = some d[j]! := by
 unfold putCells
 rw [Array.getElem?_mapIdx, Array.getElem?_eq_getElem (by omega)]
 simp only [Option.map_some]
 rw [if_pos (by omega), show off + j - off = j by omega]
 rfl
theorem row_chg1 {w w' : World} {blk off n : Nat} {d : Array Value} {cs : Array Value} {e : TypeId} (hb : w.heap[blk]? = some (.cells cs e (0, 0))) (hw : w' = putRow id (Sort.ahead w n) blk off d) :
  Chg w w' (· = blk) ∧ w'.heap[blk]? = some (.cells (putCells id off d cs) e (0, 0)) ∧ (putCells id off d cs).size = cs.size := by
 have hlt := lt_of_block hb
 have hsz : (putCells id off d cs).size = cs.size := by unfold putCells; rw [Array.size_mapIdx]
 have e1 : ∀ k, k < w.heap.size → w'.heap[k]? = (w.heap.modify blk (onCells (putCells id off d)))[k]? := fun k hk => by
  subst hw; rfl
 have e2 : w'.heap[blk]? = some (.cells (putCells id off d cs) e (0, 0)) := by
  rw [e1 blk hlt, Array.getElem?_modify, if_pos rfl, hb]; rfl
 have e3 : ∀ k, k < w.heap.size → k ≠ blk → w'.heap[k]? = w.heap[k]? := fun k hk hne => by
  rw [e1 k hk, Array.getElem?_modify, if_neg (fun h => hne h.symm)]
 refine ⟨⟨by rw [hw]; rfl, by rw [hw]; rfl, by rw [hw]; rfl, ?_, e3, fun b x hx => ?_⟩, e2, hsz⟩
 ·rw [hw]
  show w.heap.size ≤ (w.heap.modify blk (onCells (putCells id off d))).size
  rw [Array.size_modify]; omega
 ·by_cases hbb : b = blk
  ·subst hbb
   unfold World.shape? at hx ⊢
   rw [hb] at hx
   rw [e2]
   simp only [hsz]; exact hx
  ·have hbl : b < w.heap.size := by
    unfold World.shape? at hx
    split at hx
    ·rename_i hh; exact lt_of_block hh
    ·cases hx
   unfold World.shape? at hx ⊢
   rw [e3 b hbl hbb]; exact hx
set_option maxHeartbeats 1000000 in
theorem g_Delete_simpl_Job_ok (a0 : List Job) (a1 a2 : Int) (r : List Job) (h : g_Delete_simpl_Job a0 a1 a2 = some r) :
  AG Tryz.prog 102 [.own 1001, .int .i64 a1, .int .i64 a2] [(1001, ⟨List.map Job.ds a0, some 10, 0, false⟩)] [] (.own 1501) [(1501, ⟨List.map Job.ds r, some 10, 0, false⟩)] [] := by
 unfold g_Delete_simpl_Job at h
 split at h
 case isFalse => cases h
 rename_i hc0
 obtain ⟨h0, rfl, hlt⟩ := hc0
 cases h
 obtain ⟨i, rfl⟩ : ∃ i : Nat, a1 = i := ⟨a1.toNat, by omega⟩
 have hi : i < a0.length := by omega
 rw [Int.toNat_natCast]
 refine ⟨by kernel_rfl, fun cx γ us hP hg0 htl hbl hs hv => ?_⟩
 simp only [VSims, VSim] at hv
 obtain ⟨u, us', rfl, ⟨⟨hl1, a, k, c, hsv⟩, rfl⟩, u2, us2, rfl, ⟨rfl, -⟩, u3, us3, rfl, ⟨rfl, -⟩, rfl⟩ := hv
 have hT1 : look [(1001, (⟨List.map Job.ds a0, some 10, 0, false⟩ : Tok))] 1001 = some ⟨List.map Job.ds a0, some 10, 0, false⟩ := rfl
 have hnl : ¬ γ.tl 1501 := fun hl => by
  have := (htl 1501).1 hl
  simp [look] at this
 have htok := hs.tok 1001 _ hl1 hT1
 have hnd := hs.tnd 1001 _ hl1 hT1
 have e1 : ∀ q : Tok, look [(1501, q)] = fun x => if x = 1501 then some q else none := fun q => by
  funext x; simp only [look]
 rcases htok with ⟨hnil, -⟩ | ⟨g, o, cap, e, cs, fps, hvv, h1, h2, hb, h3, hr, hfp⟩
 ·have := congrArg List.length hnil
  rw [List.length_map, List.length_nil] at this; omega
 ·rw [List.length_map] at hvv h1
  rw [hvv]
  obtain ⟨F, hF⟩ : ∃ F, F = ((cs.drop o).take (a0.length * 10)).toArray := ⟨_, rfl⟩
  have hFs : F.size = a0.length * 10 := by
   rw [hF, List.size_toArray, List.length_take, List.length_drop]
   have : a0.length * 10 ≤ cap * 10 := Nat.mul_le_mul_right _ h1
   omega
  have hFg : ∀ j, j < a0.length * 10 → cs[o + j]? = some F[j]! := fun j hj => by
   rw [getElem!_pos F j (by omega), ← Array.getElem?_eq_getElem (by omega), hF, List.getElem?_toArray, List.getElem?_take_of_lt hj, List.getElem?_drop]
  have hb' : cx.we.heap[g]? = some (.cells cs.toArray e (0, 0)) := hb
  have hH : Holds id cx.we g o F := fun j hj => by
   rw [hFs] at hj
   refine ⟨?_, by simp [World.frozen?, hb']⟩
   have := hFg j hj
   simp [World.cell?, hb', this]
  have hone : ∀ u ∈ F.toList, u.oneCell' = true := fun u hu => by
   obtain ⟨j, hj, rfl⟩ := List.getElem_of_mem hu
   rw [Array.length_toList, hFs] at hj
   refine OwnR.one hr j _ (by rw [List.length_map]; exact hj) ?_
   rw [hFg j hj, Array.getElem_toList, getElem!_pos F j (by omega)]
  have hcon := del_walk g o cap a0.length i F cx.we hH hFs hone h1 (by unfold maxLen at h2; omega) hi
  refine (show Calls Tryz.prog 102 #[.slice (some ⟨g, o, none⟩) a0.length cap, .int .i64 (i : Int), .int .i64 ((i : Int) + 1)] cx.we _ from hcon).mono ?_
  rintro e' w' ⟨rfl, q, F', hw', hF's, hF'⟩
  obtain ⟨hc1, hc2, hc3⟩ := row_chg1 hb' hw'
  have hcap10 : a0.length * 10 ≤ cap * 10 := Nat.mul_le_mul_right _ h1
  have hget : ∀ j, j < (a0.length - 1) * 10 → (putCells id o F' cs.toArray).toList[o + j]? = if j < i * 10 then cs[o + j]? else cs[o + (j + 10)]? := fun j hj => by
   rw [Array.getElem?_toList, pc_get (by rw [hF's, List.size_toArray]; omega) (by omega), hF' j hj]
   by_cases hjj : j < i * 10
   ·rw [if_pos hjj, if_pos hjj, hFg j (by omega)]
   ·rw [if_neg hjj, if_neg hjj, hFg (j + 10) (by omega)]
  have hsplit : List.map Job.ds a0 = List.map Job.ds (a0.take i) ++ (Job.ds a0[i] :: List.map Job.ds (a0.drop (i + 1))) := by
   rw [← List.map_cons, ← List.map_append, ← List.drop_eq_getElem_cons hi, List.take_append_drop]
  rw [hsplit] at hr
  obtain ⟨f1, f23, k1, k2, rfl⟩ := OwnR.parts hr
  simp only [OwnR] at k2
  obtain ⟨f2, f3, -, -, k3, rfl⟩ := k2
  have hlt1 : (List.map Job.ds (a0.take i)).length = i := by rw [List.length_map, List.length_take]; omega
  rw [hlt1] at k3
  have hgn : g ∉ f1 ++ (f2 ++ f3) := by
   rw [hfp] at hnd; exact (List.nodup_cons.1 hnd).1
  have hkeep : ∀ x ∈ f1 ++ (f2 ++ f3), w'.heap[x]? = cx.we.heap[x]? := fun x hx => hc1.block x (by
   have := OwnR.lt hr x (by simpa using hx); exact this) (fun hxe => hgn (hxe ▸ hx))
  have m1 : OwnR (zvw false γ.vw) w' (putCells id o F' cs.toArray).toList 10 o (List.map Job.ds (a0.take i)) f1 := OwnR.shift (k1.keep fun x hx => hkeep x (by simp [hx])) fun j hj => by
   rw [hlt1] at hj
   rw [hget j (by have : i * 10 ≤ (a0.length - 1) * 10 := Nat.mul_le_mul_right _ (by omega); omega), if_pos hj]
  have m2 : OwnR (zvw false γ.vw) w' (putCells id o F' cs.toArray).toList 10 (o + i * 10) (List.map Job.ds (a0.drop (i + 1))) f3 := OwnR.shift (k3.keep fun x hx => hkeep x (by simp [hx])) fun j hj => by
   rw [List.length_map, List.length_drop] at hj
   rw [Nat.add_assoc, hget (i * 10 + j) (by omega), if_neg (by omega)]
   congr 1; omega
  have m3 : OwnR (zvw false γ.vw) w' (putCells id o F' cs.toArray).toList 10 o (List.map Job.ds (a0.take i ++ a0.drop (i + 1))) (f1 ++ f3) := by
   rw [List.map_append]
   exact OwnR.append m1 (by rw [hlt1]; exact m2)
  have hlr : (a0.take i ++ a0.drop (i + 1)).length = a0.length - 1 := by rw [List.length_append, List.length_take, List.length_drop]; omega
  have hok : TokOk γ.vw w' ⟨List.map Job.ds (a0.take i ++ a0.drop (i + 1)), some 10, 0, false⟩ (.slice (some ⟨g, o, none⟩) (a0.length - 1) cap) (g :: (f1 ++ f3)) :=
   .inr ⟨g, o, cap, e, (putCells id o F' cs.toArray).toList, f1 ++ f3, by rw [List.length_map, hlr], by rw [List.length_map, hlr]; omega, h2, by unfold Blk; rw [Array.toArray_toList]; exact hc2, by rw [Array.length_toList, hc3, List.size_toArray]; exact h3, m3, rfl⟩
  have hsub : (g :: (f1 ++ f3)).Sublist (g :: (f1 ++ (f2 ++ f3))) := (List.Sublist.append (List.Sublist.refl _) (List.sublist_append_right _ _)).cons_cons g
  have hfin := tok_new (n := 1501) hs hl1 hT1 (W := (· = g)) (fun x hx => by rw [hfp, hx]; simp) (fun x hx => by rw [hfp]; exact hsub.subset hx) (by rw [hfp] at hnd; exact hsub.nodup hnd) hc1 hok hnl
  refine ⟨_, γ.tok w' 1501 (.slice (some ⟨g, o, none⟩) (a0.length - 1) cap) (g :: (f1 ++ f3)) 0, rfl, ?_, ?_⟩
  ·rw [e1]; exact hfin
  ·simp only [VSim]
   have e2 : (γ.tok w' 1501 (.slice (some ⟨g, o, none⟩) (a0.length - 1) cap) (g :: (f1 ++ f3)) 0).tv 1501 = .slice (some ⟨g, o, none⟩) (a0.length - 1) cap := by simp [Gh.tok]
   rw [e2]
   exact ⟨⟨.inr rfl, _, _, _, rfl⟩, rfl⟩
end Go.Proofs.YtckcfdggbbabfaaGreat.Ab
