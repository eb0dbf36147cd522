/-
  slices.Grow of nothing, slices.Values, slices.Sorted of what it gives, over []int64: what the walk asks of them.
-/
import Derived.Test.YtckcfdggbbabfaaSortW
import Derived.Test.YtckcfdggbbabfaaManH
import Derived.Test.YtckcfdggbbabfaaSq
import Derived.Shelf.Spec.SlicesGrow
import Derived.Test.YtckcfdggbbabfaaAbY
namespace Go.Proofs.Ytckcfdggbbabfaa.Ab
set_option linter.unusedVariables false
set_option linter.unusedSimpArgs false
set_option maxRecDepth 20000
open Go.RowKit Go.Sort

/-- A slice in new memory is what is handed back. -/
theorem fresh_put {cx : Cx} {γ : Gh} {T : Nat → Option Tok} {w' : World} {ys : List Int} {z : Option Nat} {v : Value} {n : Nat} (hs : OSim cx γ T (look []) cx.we) (hb : Below cx.we.heap.size cx.we w') (hok : TokOk w' ⟨ys.map i64D, z, 0⟩ v [cx.we.heap.size]) (hn : ¬ γ.tl n) :
    OSim cx (γ.tok w' n v [cx.we.heap.size] 0) (fun x => if x = n then some ⟨ys.map i64D, z, 0⟩ else none) (look []) w' := by
  have hs0 : OSim cx γ (fun _ => none) (look []) w' := (hs.below hb).tables (fun _ _ _ h => by cases h) fun _ _ _ h => h
  exact hs0.putTok (t := n) (tk := ⟨ys.map i64D, z, 0⟩) rfl (fun h => absurd h hn) hok (by simp) (fun g hg => ⟨fun _ _ _ h => (by cases h), fun b vs h1 h2 => (by cases h2), .inl (by simp only [List.mem_singleton] at hg; omega)⟩) (fun h => absurd h hn) (fun h => absurd h hn)
theorem info_e : ∃ i0, Try.prog.info? 2 = some i0 ∧ i0.zero = some (.int .i64 0) ∧ i0.size = 1 ∧ i0.bytes = 8 := info_parts Sq.infoE
theorem tok_of_new {w : World} {g c e : Nat} {cs : Array Value} (hb : w.heap[g]? = some (.cells cs e (0, 0))) (hc : c ≤ cs.size) (hm : c ≤ maxLen) : TokOk w ⟨List.map i64D [], some 1, 0⟩ (.slice (some ⟨g, 0, none⟩) 0 c) [g] := by
  refine .inr ⟨g, 0, c, e, cs.toList, [], rfl, Nat.zero_le _, hm, by unfold Blk; rw [Array.toArray_toList]; exact hb, by rw [Array.length_toList]; omega, ?_, rfl⟩
  simp [OwnR]
theorem g_Grow_sint64_ok (a0 : List Int) (a1 : Int) (r : List Int) (h : g_Grow_sint64 a0 a1 = some r) :
    AG Try.prog 56 [.own 1001, .int .i64 a1] [(1001, ⟨List.map i64D a0, some 1, 0⟩)] [] (.own 1501) [(1501, ⟨List.map i64D r, some 1, 0⟩)] [] := by
  unfold g_Grow_sint64 at h
  split at h
  case isFalse => cases h
  rename_i hc0
  obtain ⟨hl0, hn0, hn1⟩ := hc0
  cases h
  obtain rfl := List.eq_nil_of_length_eq_zero hl0
  obtain ⟨n, rfl⟩ : ∃ n : Nat, a1 = n := ⟨a1.toNat, by omega⟩
  refine ⟨by kernel_rfl, fun cx γ us hP hg0 htl hbl hs hv => ?_⟩
  simp only [VSims, VSim] at hv
  obtain ⟨u, us', rfl, ⟨⟨hl1, a, k, c, hsv⟩, rfl⟩, u2, us2, rfl, ⟨rfl, -⟩, rfl⟩ := hv
  have hT1 : look [(1001, (⟨List.map i64D [], some 1, 0⟩ : Tok))] 1001 = some ⟨List.map i64D [], some 1, 0⟩ := rfl
  have hnl : ¬ γ.tl 1501 := fun hl => by
    have := (htl 1501).1 hl
    simp [look] at this
  have htok := hs.tok 1001 _ hl1 hT1
  have hk := slice_len htok hsv
  rw [List.map_nil, List.length_nil] at hk
  subst hk
  have e1 : look [(1501, (⟨List.map i64D [], some 1, 0⟩ : Tok))] = fun x => if x = 1501 then some ⟨List.map i64D [], some 1, 0⟩ else none := by
    funext x; simp only [look]
  have hcm : c ≤ maxLen := by
    have := htok.own.rep
    rw [hsv] at this
    simp only [Rep] at this
    obtain ⟨a', c', e', -, h3, -⟩ := this
    simp only [Value.slice.injEq] at e'
    rw [e'.2.2]; exact h3
  rw [hsv]
  by_cases hroom : n ≤ c
  · have hcon := Any8.slices_Grow_room Try.layGrow a 0 c n cx.we (Nat.zero_le _) (by unfold maxLen at hcm; omega) (by omega) (by omega)
    refine (show Calls Try.prog 56 #[.slice a 0 c, .int .i64 n] cx.we _ from hcon).mono ?_
    rintro e w' ⟨rfl, rfl⟩
    rw [hsv] at htok
    have hfin := tok_put (n := 1501) (ys := []) hs hl1 hT1 (W := fun _ => False) (fun g hg => hg.elim) (fun g hg => hg) (hs.tnd 1001 _ hl1 hT1) (Chg.refl _ _) htok (.inr hnl)
    refine ⟨_, γ.tok cx.we 1501 (.slice a 0 c) (γ.tf 1001) 0, rfl, ?_, ?_⟩
    · rw [e1]; exact hfin
    · simp only [VSim]
      have e2 : (γ.tok cx.we 1501 (.slice a 0 c) (γ.tf 1001) 0).tv 1501 = .slice a 0 c := tok_tv
      rw [e2]
      exact ⟨⟨.inr rfl, a, 0, c, rfl⟩, rfl⟩
  · -- new memory
    obtain ⟨i0, hi, hz0, hz1, hz2⟩ := info_e
    obtain ⟨cs, hcl, hnil, hcs⟩ : ∃ cs : List Value, cs.length = c * 1 ∧ (a = none → c = 0) ∧ ∀ ad, a = some ad → ∀ j v, cs[j]? = some v → cx.we.cell? (ad.add j) = some v := by
      rcases htok with ⟨-, ⟨a', h1⟩, -⟩ | ⟨g, o, c', e, cs, fps, h1, h2, h3, h4, h5, h6, h7⟩
      · rw [hsv] at h1
        simp only [Value.slice.injEq] at h1
        exact ⟨[], by rw [h1.2.2]; rfl, fun _ => h1.2.2, fun _ _ j v hv => by simp at hv⟩
      · rw [hsv] at h1
        simp only [Value.slice.injEq] at h1
        obtain ⟨rfl, -, rfl⟩ := h1
        refine ⟨(cs.drop o).take c, by rw [List.length_take, List.length_drop]; omega, fun h => (by cases h), fun ad had j v hv => ?_⟩
        cases had
        have hj : j < c := by
          have := (List.getElem?_eq_some_iff.1 hv).1
          rw [List.length_take] at this; omega
        rw [List.getElem?_take_of_lt hj, List.getElem?_drop] at hv
        unfold Blk at h4
        rw [Addr.add_lit]
        simp [World.cell?, h4, hv]
    have hcon := Any8.slices_Grow_grow Try.layGrow i0 (.int .i64 0) hi hz0 (by omega) a 0 c n cs cx.we (Nat.zero_le _) (by omega) (by rw [hz2]; omega) (by omega) (by rw [hz1]; exact hcl) hnil hcs
    refine (show Calls Try.prog 56 #[.slice a 0 c, .int .i64 n] cx.we _ from hcon).mono ?_
    rintro e w' ⟨rfl, hw⟩
    generalize hG : grownCap cx.we (0 + n) c (Try.layGrow_ren.t 25) = G at hw
    have hGm : G ≤ maxLen := by rw [← hG]; exact grownCap_le_maxLen _ _ _ _ (by unfold maxLen; omega)
    have hGn : 0 + n ≤ G := by rw [← hG]; exact grownCap_ge _ _ _ _
    have hb : Below cx.we.heap.size cx.we w' := by rw [hw]; exact ((Below.refl _ _).drew).alloc (by simp) _
    have key : ∀ ob : Obj, w' = cx.we.drew.alloc ob → w'.heap[cx.we.heap.size]? = some ob := fun ob h => by rw [h]; exact World.alloc_heap_new cx.we.drew ob
    have hnew := key _ hw
    have hok := tok_of_new (c := G) hnew (by
      simp only [Array.size_append, List.size_toArray, size_zeroCells]
      have : (Value.int IntKind.i64 0).cells.size = 1 := rfl
      rw [this]; omega) hGm
    have hfin := fresh_put (n := 1501) (ys := []) hs hb hok hnl
    refine ⟨_, γ.tok w' 1501 (.slice (some ⟨cx.we.heap.size, 0, none⟩) 0 G) [cx.we.heap.size] 0, rfl, ?_, ?_⟩
    · rw [e1]; exact hfin
    · simp only [VSim]
      have e2 : (γ.tok w' 1501 (.slice (some ⟨cx.we.heap.size, 0, none⟩) 0 G) [cx.we.heap.size] 0).tv 1501 = .slice (some ⟨cx.we.heap.size, 0, none⟩) 0 G := tok_tv
      rw [e2]
      exact ⟨⟨.inr rfl, _, _, _, rfl⟩, rfl⟩
theorem g_Values_sint64_ok (a0 : List Int) :
    AG Try.prog 40 [.ro (List.map i64D a0)] [] [] (.fn 61 [.box 1601 0]) [] [(1601, [.ro (List.map i64D a0)])] := by
  refine ag_fn mixed Try.func40 rfl rfl rfl (by kernel_rfl) (by kernel_rfl) ?_
  simp only [go_sem]
  refine ret_i (.done _) [] [(1601, 1000)] ?_
  simp only [go_sem]
theorem rowI {w : World} {b : Nat} : ∀ {xs : List Int} {sz off : Nat}, RepR w sz b off (List.map i64D xs) → ∀ j x, xs[j]? = some x → w.cell? ⟨b, off + j, none⟩ = some (.int .i64 x) ∧ (Lit.int .i64 x).wf = true
  | [], sz, off, _, j, x, h => by simp at h
  | y :: xs, sz, off, h, j, x, hx => by
    simp only [List.map_cons, RepR, i64D, RepC, Rep] at h
    obtain ⟨hsz, ⟨⟨u, h1, rfl, h2⟩, -⟩, h3⟩ := h
    obtain rfl : sz = 1 := by rw [← hsz]; rfl
    cases j with
    | zero => simp only [List.getElem?_cons_zero, Option.some.injEq] at hx; subst hx; exact ⟨h1, h2⟩
    | succ j =>
      have := rowI h3 j x (by simpa using hx)
      rw [show off + (j + 1) = off + 1 + j from by omega]; exact this
theorem Chg.low {w w' : World} {b n : Nat} (h : Chg w w' (· = b)) (hb : n ≤ b) (hn : n ≤ w.heap.size) : Below n w w' :=
  ⟨h.os, h.tape, h.output, h.size, fun k hk => h.block k (by omega) (by omega)⟩
set_option maxHeartbeats 1000000 in
theorem g_Sorted_int64_ok (a0 : List Int) (r : List Int) (h : g_Sorted_int64 a0 = some r) :
    AC Try.prog 39 [.fn 61 [.rop [.ro (List.map i64D a0)] 0]] (.ow (some 1) (List.map i64D r)) := by
  unfold g_Sorted_int64 at h
  split at h
  case isFalse => cases h
  rename_i hlen
  cases h
  refine ⟨by kernel_rfl, fun w us hw hlow hamb hv => ?_⟩
  simp only [VSims, VSim] at hv
  obtain ⟨u, us', rfl, ⟨cs, rfl, u2, us2, rfl, ⟨Bs, Bo, us3, rfl, ⟨u3, us4, rfl, hrep, rfl⟩, hcell⟩, rfl⟩, rfl⟩ := hv
  have hc0 := hcell 0 u3 rfl
  rw [Nat.add_zero] at hc0 ⊢
  have hBs : Bs < w.heap.size := World.block_lt_of_cell? w _ hc0
  have hwf : ∀ x ∈ a0, (Lit.int .i64 x).wf = true := by
    simp only [Rep] at hrep
    obtain ⟨a, c, rfl, h1, h2, h3⟩ := hrep
    rcases h3 with h3 | ⟨sz, b, off, rfl, hr⟩
    · rw [List.map_eq_nil_iff.1 h3]; simp
    · intro x hx
      obtain ⟨j, hj, rfl⟩ := List.getElem_of_mem hx
      exact (rowI hr j _ (List.getElem?_eq_getElem hj)).2
  have hI : Sq.Ints w.heap.size w u3 a0 := by
    simp only [Rep] at hrep
    obtain ⟨a, c, rfl, h1, h2, h3⟩ := hrep
    rw [List.length_map] at h1 ⊢
    rcases h3 with h3 | ⟨sz, b, off, rfl, hr⟩
    · obtain rfl := List.map_eq_nil_iff.1 h3
      exact .inl ⟨a, c, rfl, rfl⟩
    · by_cases hne : a0 = []
      · subst hne; exact .inl ⟨_, c, rfl, rfl⟩
      · have hpos : 0 < a0.length := List.length_pos_iff.2 hne
        refine .inr ⟨b, off, c, rfl, World.block_lt_of_cell? w _ (rowI hr 0 _ (List.getElem?_eq_getElem hpos)).1, fun j hj => ?_⟩
        rw [List.getElem?_eq_getElem hj]
        exact (rowI hr j _ (List.getElem?_eq_getElem hj)).1
  have hseq := Sq.val_stops Fence.wide 6 trivial rfl (by omega) Bs Bo w.heap.size u3 a0 (by omega) w hBs (Nat.le_refl _) hc0 hI
  have hcon := callsIn_wide.1 (Sq.sorted_in 9 (by omega) 61 #[.pointer (some ⟨Bs, Bo, none⟩)] (fun args w => rfl) a0 (by omega) w hseq)
  refine hcon.mono ?_
  rintro e w' (⟨rfl, rfl, hb⟩ | ⟨blk, cap, cur, W, k, os, rfl, hbase, r1, r2, hcs, hgb, hb, hw'⟩)
  · refine ⟨_, [], rfl, ?_, by simp, by simp, hb⟩
    simp only [RSim]
    exact .inl ⟨List.map_eq_nil_iff.2 (List.eq_nil_of_length_eq_zero (by rw [sortI_length]; rfl)), ⟨none, rfl⟩, rfl⟩
  · obtain ⟨hc1, hc2, hc3⟩ := row_chg hgb hw'
    refine ⟨_, [blk], rfl, ?_, by simp, by simpa using hbase, hb.trans (hc1.low hbase hb.size)⟩
    simp only [RSim]
    have hsl := sortI_length a0
    refine .inr ⟨blk, 0, cap, _, _, [], by rw [List.length_map, hsl], by rw [List.length_map, hsl]; exact r1, r2, by unfold Blk; rw [Array.toArray_toList]; exact hc2, by rw [Array.length_toList, hc3]; omega, ownR_ints.2 ⟨rfl, fun j x hx => ?_⟩, rfl⟩
    obtain ⟨hj, rfl⟩ := List.getElem?_eq_some_iff.1 hx
    refine ⟨?_, hwf _ (sortI_mem.1 (List.getElem_mem hj))⟩
    have := putCells_get (enc := Value.int .i64) (off := 0) (d := (sortI a0).toArray) (c := cur) (by rw [List.size_toArray, hsl]; omega) (j := j) (by rw [List.size_toArray]; exact hj)
    rw [List.getElem_toArray] at this
    rw [Array.getElem?_toList]
    exact this
end Go.Proofs.Ytckcfdggbbabfaa.Ab
