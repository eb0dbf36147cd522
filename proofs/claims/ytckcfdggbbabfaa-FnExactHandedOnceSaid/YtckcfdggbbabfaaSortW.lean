/-
  slices.Sort over []int64, lent or handed a slice of the caller's own: by the library's contracts.
-/
import Derived.Test.YtckcfdggbbabfaaAbS
import Derived.Test.YtckcfdggbbabfaaManS
import Derived.Test.YtckcfdggbbabfaaTi2
import Derived.Shelf.SortG.Plain
import Derived.Shelf.SortG.SortNone
import Derived.Test.YtckcfdggbbabfaaShL
namespace Go.Proofs.Ytckcfdggbbabfaa.Ab
set_option linter.unusedVariables false
set_option linter.unusedSimpArgs false
set_option maxRecDepth 20000
open Go.RowKit Go.Sort

theorem ownR_ints {w : World} {cs : List Value} : ∀ {zs : List Int} {o : Nat} {fps : List Nat}, OwnR w cs 1 o (zs.map i64D) fps ↔ (fps = [] ∧ ∀ j z, zs[j]? = some z → cs[o + j]? = some (.int .i64 z) ∧ (Lit.int .i64 z).wf = true)
  | [], o, fps => by simp [OwnR]
  | z :: zs, o, fps => by
    simp only [List.map_cons, OwnR, i64D, OwnC, Own]
    constructor
    · rintro ⟨f1, f2, -, ⟨u, g1, g2, hu, ⟨rfl, hw, rfl⟩, rfl, rfl⟩, hr, rfl⟩
      obtain ⟨rfl, h⟩ := ownR_ints.1 hr
      refine ⟨rfl, fun j x hx => ?_⟩
      cases j with
      | zero => simp only [List.getElem?_cons_zero, Option.some.injEq] at hx; subst hx; exact ⟨hu, hw⟩
      | succ j =>
        have := h j x (by simpa using hx)
        rw [show o + (j + 1) = o + 1 + j from by omega]; exact this
    · rintro ⟨rfl, h⟩
      have h0 := h 0 z rfl
      refine ⟨[], [], rfl, ⟨.int .i64 z, [], [], h0.1, ⟨rfl, h0.2, rfl⟩, rfl, rfl⟩, ownR_ints.2 ⟨rfl, fun j x hx => ?_⟩, rfl⟩
      have := h (j + 1) x (by simpa using hx)
      rw [show o + 1 + j = o + (j + 1) from by omega]; exact this
/-- The block of a slice of numbers, and back with others. -/
theorem ints_tok {w : World} {zs : List Int} {z : Option Nat} {v : Value} {fp : List Nat} (h : TokOk w ⟨zs.map i64D, z, 0⟩ v fp) (hne : zs ≠ []) :
    ∃ blk off cap e cs, v = .slice (some ⟨blk, off, none⟩) zs.length cap ∧ zs.length ≤ cap ∧ cap ≤ maxLen ∧ w.heap[blk]? = some (.cells cs e (0, 0)) ∧ off + cap ≤ cs.size ∧ fp = [blk] ∧
      (∀ j x, zs[j]? = some x → cs[off + j]? = some (.int .i64 x) ∧ (Lit.int .i64 x).wf = true) ∧
      ∀ (w' : World) (cs' : Array Value) (ys : List Int) (n k : Nat), ys.length = n → n ≤ cap → w'.heap[blk]? = some (.cells cs' e (0, 0)) → cs'.size = cs.size → (∀ j x, ys[j]? = some x → cs'[off + j]? = some (.int .i64 x) ∧ (Lit.int .i64 x).wf = true) →
        TokOk w' ⟨ys.map i64D, z, k⟩ (.slice (some ⟨blk, off, none⟩) n cap) [blk] := by
  have hnr : (zs.map i64D) ≠ [] := by simpa using hne
  have key : ∃ s, s = 1 ∧ OwnS w (zs.map i64D) v fp s ∧ (z = none ∨ z = some s) := by
    unfold TokOk at h
    cases z with
    | none =>
      simp only [Own] at h
      rcases h with ⟨he, -, -⟩ | ⟨sz', g, o, c, e, cs, fps, hv, h1, h2, hb, h3, hr, hfp⟩
      · exact absurd he hnr
      · refine ⟨sz', ?_, .inr ⟨g, o, c, e, cs, fps, hv, h1, h2, hb, h3, hr, hfp⟩, .inl rfl⟩
        have h0 : 0 < (zs.map i64D).length := List.length_pos_iff.2 hnr
        obtain ⟨_, _, _, _, h4, -⟩ := hr.split 0 h0
        simpa [i64D] using h4.symm
    | some s =>
      simp only at h
      refine ⟨s, ?_, h, .inr rfl⟩
      rcases h with ⟨he, -, -⟩ | ⟨g, o, c, e, cs, fps, hv, h1, h2, hb, h3, hr, hfp⟩
      · exact absurd he hnr
      · have h0 : 0 < (zs.map i64D).length := List.length_pos_iff.2 hnr
        obtain ⟨_, _, _, _, h4, -⟩ := hr.split 0 h0
        simpa [i64D] using h4.symm
  obtain ⟨s, rfl, hS, hz⟩ := key
  rcases hS with ⟨he, -, -⟩ | ⟨blk, off, cap, e, cs, fps, hv, h1, h2, hb, h3, hr, hfp⟩
  · exact absurd he hnr
  · obtain ⟨rfl, hc⟩ := ownR_ints.1 hr
    rw [List.length_map] at hv h1
    refine ⟨blk, off, cap, e, cs.toArray, hv, h1, h2, hb, by rw [List.size_toArray]; omega, hfp, fun j x hx => by rw [List.getElem?_toArray]; exact hc j x hx, fun w' cs' ys n k hn hnc hb' hs' hc' => ?_⟩
    subst hn
    have hS : OwnS w' (ys.map i64D) (.slice (some ⟨blk, off, none⟩) ys.length cap) [blk] 1 := by
      refine .inr ⟨blk, off, cap, e, cs'.toList, [], by rw [List.length_map], by rw [List.length_map]; exact hnc, h2, by unfold Blk; rw [Array.toArray_toList]; exact hb', ?_, ownR_ints.2 ⟨rfl, fun j x hx => by rw [Array.getElem?_toList]; exact hc' j x hx⟩, rfl⟩
      rw [Array.length_toList, hs', List.size_toArray]; omega
    rcases hz with rfl | rfl
    · exact hS.own
    · exact hS
theorem putCells_get {α : Type} [Inhabited α] {enc : α → Value} {off : Nat} {d : Array α} {c : Array Value} (h : off + d.size ≤ c.size) {j : Nat} (hj : j < d.size) : (putCells enc off d c)[off + j]? = some (enc d[j]) := by
  unfold putCells
  rw [Array.getElem?_mapIdx, Array.getElem?_eq_getElem (by omega)]
  simp only [Option.map_some]
  rw [if_pos (by omega), show off + j - off = j by omega, getElem!_pos d j hj]
/-- What the library's sort leaves of the world. -/
theorem row_chg {α : Type} [Inhabited α] {enc : α → Value} {w w' : World} {blk off n : Nat} {d : Array α} {cs : Array Value} {e : TypeId} {os : Array Obj} (hb : w.heap[blk]? = some (.cells cs e (0, 0))) (hw : w' = grow (putRow enc (Sort.ahead w n) blk off d) os) :
    Chg w w' (· = blk) ∧ w'.heap[blk]? = some (.cells (putCells enc off d cs) e (0, 0)) ∧ (putCells enc off d cs).size = cs.size := by
  have hlt := lt_of_block hb
  have hsz : (putCells enc off d cs).size = cs.size := by unfold putCells; rw [Array.size_mapIdx]
  have e1 : ∀ k, k < w.heap.size → w'.heap[k]? = (w.heap.modify blk (onCells (putCells enc off d)))[k]? := fun k hk => by
    subst hw
    show ((w.heap.modify blk (onCells (putCells enc off d))) ++ os)[k]? = _
    rw [Array.getElem?_append_left (by rw [Array.size_modify]; exact hk)]
  have e2 : w'.heap[blk]? = some (.cells (putCells enc off d cs) e (0, 0)) := by
    rw [e1 blk hlt, Array.getElem?_modify, if_pos rfl, hb]; rfl
  have e3 : ∀ k, k < w.heap.size → k ≠ blk → w'.heap[k]? = w.heap[k]? := fun k hk hne => by
    rw [e1 k hk, Array.getElem?_modify, if_neg (fun h => hne h.symm)]
  refine ⟨⟨by rw [hw]; rfl, by rw [hw]; rfl, by rw [hw]; rfl, ?_, e3, fun b x hx => ?_⟩, e2, hsz⟩
  · rw [hw]
    show w.heap.size ≤ ((w.heap.modify blk (onCells (putCells enc off d))) ++ os).size
    rw [Array.size_append, Array.size_modify]; omega
  · by_cases hbb : b = blk
    · subst hbb
      unfold World.shape? at hx ⊢
      rw [hb] at hx
      rw [e2]
      simp only [hsz]; exact hx
    · have hbl : b < w.heap.size := by
        unfold World.shape? at hx
        split at hx
        · rename_i hh; exact lt_of_block hh
        · cases hx
      unfold World.shape? at hx ⊢
      rw [e3 b hbl hbb]; exact hx
theorem holds_of {w : World} {blk off : Nat} {zs : List Int} {cs : Array Value} {e : TypeId} (hb : w.heap[blk]? = some (.cells cs e (0, 0))) (hc : ∀ j x, zs[j]? = some x → cs[off + j]? = some (.int .i64 x) ∧ (Lit.int .i64 x).wf = true) : Holds (Value.int .i64) w blk off zs.toArray := by
  intro j hj
  have hj' : j < zs.length := by simpa using hj
  have h1 := (hc j zs[j] (List.getElem?_eq_getElem hj')).1
  refine ⟨?_, by simp [World.frozen?, hb]⟩
  rw [getElem!_pos _ j hj, List.getElem_toArray]
  simp [World.cell?, hb, h1]
theorem at_flat {zs : List Int} {q : Pth} {r : List (List D)} (h : At q (.sl (zs.map i64D)) (.sl r)) : q = [] := by
  cases q with
  | nil => rfl
  | cons x q =>
    obtain ⟨sz, i, j⟩ := x
    simp only [At] at h
    obtain ⟨row, e, h1, h2, h3, h4⟩ := h
    rw [List.getElem?_map] at h1
    cases hz : zs[i]? with
    | none => rw [hz] at h1; cases h1
    | some z =>
      rw [hz] at h1
      simp only [Option.map_some, Option.some.injEq, i64D] at h1
      subst h1
      cases j with
      | zero =>
        simp only [List.getElem?_cons_zero, Option.some.injEq] at h3
        subst h3
        cases q with
        | nil => simp only [At] at h4; cases h4
        | cons y q => obtain ⟨a, b, c⟩ := y; simp only [At] at h4
      | succ j => simp at h3
section
variable {cx : Cx} {γ : Gh} {w w' : World}
/-- The one slice that was handed in, turned in its place or handed back. -/
theorem tok_put {T : Nat → Option Tok} {B : Nat → Option (List AV)} {W : Nat → Prop} {t n : Nat} {tk : Tok} {v : Value} {ys : List Int} {z : Option Nat} {fp : List Nat} (hs : OSim cx γ T B w) (htl : γ.tl t) (hTt : T t = some tk)
    (hW : ∀ g, W g → g ∈ γ.tf t) (hfp : ∀ g ∈ fp, g ∈ γ.tf t) (hnd : fp.Nodup) (hc : Chg w w' W) (hok : TokOk w' ⟨ys.map i64D, z, 0⟩ v fp) (hn : (n = t ∧ v = γ.tv t ∧ tk.gen = 0) ∨ ¬ γ.tl n) :
    OSim cx (γ.tok w' n v fp 0) (fun x => if x = n then some ⟨ys.map i64D, z, 0⟩ else none) B w' := by
  have hs0 : OSim cx γ (fun _ => none) B w := hs.tables (fun _ _ _ h => by cases h) fun _ _ _ h => h
  have hfr : ∀ g ∈ γ.tf t, Free cx γ (fun _ => none) B g := fun g hg => ⟨fun _ _ _ h => (by cases h), fun b vs h1 h2 e => hs.btd b t vs tk h1 htl h2 hTt (by rw [e]; exact hg), hs.tfr t tk htl hTt g hg⟩
  have hs1 := hs0.change hc fun g hg => hfr g (hW g hg)
  have hh := hs.hds t tk htl hTt
  refine hs1.putTok (t := n) (tk := ⟨ys.map i64D, z, 0⟩) rfl ?_ hok hnd (fun g hg => hfr g (hfp g hg)) ?_ ?_
  · intro hl
    rcases hn with ⟨rfl, hv, -⟩ | hn
    · exact hv.symm
    · exact (hn hl).elim
  · intro hl k hk
    rcases hn with ⟨rfl, -, hg⟩ | hn
    · have := hh.2.1 k hk; show k ≤ 0; omega
    · exact (hn hl).elim
  · intro hl hgl q r hq
    rcases hn with ⟨rfl, hv, hg⟩ | hn
    · obtain rfl := at_flat hq
      have := hh.2.2 [] tk.rows (by simp only [At])
      rw [hg] at this
      rw [hv]
      simpa [hdr] using this
    · exact (hn hl).elim
end
theorem tok_tv {γ : Gh} {w : World} {t k : Nat} {v : Value} {fp : List Nat} : (γ.tok w t v fp k).tv t = v := by show (if t = t then _ else _) = _; rw [if_pos rfl]
theorem compact_le (l : List Int) : (Lib.compact l).length ≤ l.length := by
  unfold Lib.compact Lib.compactUpTo
  rw [List.length_map]
  exact Nat.le_trans (List.length_filter_le _ _) (by simp)
theorem compact_mem {l : List Int} {x : Int} (h : x ∈ Lib.compact l) : x ∈ l := by
  unfold Lib.compact Lib.compactUpTo at h
  obtain ⟨j, hj, rfl⟩ := List.mem_map.1 h
  have hj := List.mem_range.1 (List.mem_filter.1 hj).1
  rw [getElem!_pos _ j (by simpa using hj), List.getElem_toArray]
  exact List.getElem_mem hj
theorem slice_len {w : World} {rows : List (List D)} {z : Option Nat} {g n c : Nat} {v : Value} {a : Option Addr} {fp : List Nat} (h : TokOk w ⟨rows, z, g⟩ v fp) (hv : v = .slice a n c) : n = rows.length := by
  have := h.own.rep
  simp only [Rep] at this
  obtain ⟨a', c', h1, -⟩ := this
  rw [hv] at h1
  simp only [Value.slice.injEq] at h1
  exact h1.2.1
theorem wf_of_mem {zs : List Int} {cs : Array Value} {off : Nat} (hc : ∀ j x, zs[j]? = some x → cs[off + j]? = some (.int .i64 x) ∧ (Lit.int .i64 x).wf = true) {x : Int} (hx : x ∈ zs) : (Lit.int .i64 x).wf = true := by
  obtain ⟨j, hj, rfl⟩ := List.getElem_of_mem hx
  exact (hc j _ (List.getElem?_eq_getElem hj)).2
theorem g_Sort_sint64_ok (a0 : List Int) (z1 : Option Nat) (r : List Int) (h : g_Sort_sint64 a0 = some r) :
    AG Try.prog 37 [.own 1] [(1, ⟨List.map i64D a0, z1, 0⟩)] [] (.tup []) [(1, ⟨List.map i64D r, z1, 0⟩)] [] := by
  unfold g_Sort_sint64 at h
  split at h
  case isFalse => cases h
  rename_i hlen
  cases h
  refine ⟨by kernel_rfl, fun cx γ us hP hg0 htl hbl hs hv => ?_⟩
  simp only [VSims, VSim] at hv
  obtain ⟨u, us', rfl, ⟨⟨hl1, a, n, c, hsv⟩, rfl⟩, rfl⟩ := hv
  have hT1 : look [(1, (⟨List.map i64D a0, z1, 0⟩ : Tok))] 1 = some ⟨List.map i64D a0, z1, 0⟩ := rfl
  have htok := hs.tok 1 _ hl1 hT1
  have hn := slice_len htok hsv
  rw [List.length_map] at hn
  subst hn
  by_cases hne : a0 = []
  · subst hne
    have hcon := AnyG.slices_Sort_int_none Try.laySort a c cx.we
    rw [hsv]
    refine (show Calls Try.prog 37 #[.slice a 0 c] cx.we _ from hcon).mono ?_
    rintro e w' ⟨rfl, rfl⟩
    exact ⟨_, γ, rfl, by simpa [sortI] using hs, by simp only [VSim]; exact ⟨[], rfl, by simp only [VSims]⟩⟩
  · obtain ⟨blk, off, cap, e, cs, hv, h1, h2, hb, h3, hfp, hc, hback⟩ := ints_tok htok hne
    have hcon := AnyG.slices_Sort_int Try.laySort blk off cap a0 cx.we (holds_of hb hc) (lt_of_block hb) (by omega)
    rw [hv]
    refine (show Calls Try.prog 37 #[.slice (some ⟨blk, off, none⟩) a0.length cap] cx.we _ from hcon).mono ?_
    rintro e' w' ⟨rfl, n, os, hw⟩
    obtain ⟨hc1, hc2, hc3⟩ := row_chg hb hw
    have hsl := sortI_length a0
    have hok := hback w' _ (sortI a0) a0.length 0 hsl h1 hc2 hc3 fun j x hx => by
      obtain ⟨hj, rfl⟩ := List.getElem?_eq_some_iff.1 hx
      refine ⟨?_, wf_of_mem hc (sortI_mem.1 (List.getElem_mem hj))⟩
      have := putCells_get (enc := Value.int .i64) (off := off) (d := (sortI a0).toArray) (c := cs) (by rw [List.size_toArray, hsl]; omega) (j := j) (by rw [List.size_toArray]; exact hj)
      rw [List.getElem_toArray] at this
      exact this
    rw [← hv] at hok
    have hfin := tok_put (n := 1) hs hl1 hT1 (W := (· = blk)) (fun g hg => by rw [hfp, hg]; simp) (fun g hg => by rw [hfp]; exact hg) (by simp) hc1 hok (.inl ⟨rfl, rfl, rfl⟩)
    refine ⟨_, γ.tok w' 1 (γ.tv 1) [blk] 0, rfl, ?_, by simp only [VSim]; exact ⟨[], rfl, by simp only [VSims]⟩⟩
    have e1 : look [(1, (⟨List.map i64D (sortI a0), z1, 0⟩ : Tok))] = fun x => if x = 1 then some ⟨List.map i64D (sortI a0), z1, 0⟩ else none := by
      funext x; simp only [look]
    rw [e1]
    exact hfin
end Go.Proofs.Ytckcfdggbbabfaa.Ab
