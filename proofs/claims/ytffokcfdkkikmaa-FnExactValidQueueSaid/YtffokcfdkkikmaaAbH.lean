/-
  The abstract walk, eighth part: 'ev_sound': each operation of 'Ev'.
-/
import Derived.Test.YtffokcfdkkikmaaAbG
import Derived.Laws.Small
namespace Go.Proofs.Ytffokcfdkkikmaa.Ab
set_option linter.unusedVariables false
set_option linter.unusedSimpArgs false
open Go.RowKit

theorem arrFs_get {sz : Nat} {el : TypeId} : ∀ {n off f : Nat} {q : Nat × TypeId}, (arrFs sz el n off)[f]? = some q → q = (off + f * sz, el)
  | 0, _, _, _, h => by simp [arrFs] at h
  | n + 1, off, 0, q, h => by simp [arrFs] at h; rw [← h]; simp
  | n + 1, off, f + 1, q, h => by
    rw [arrFs, List.getElem?_cons_succ] at h
    rw [arrFs_get h, Nat.succ_mul]
    simp only [Prod.mk.injEq, and_true]
    omega
theorem intsK_get {k : IntKind} : ∀ {vs : List AV} {ns : List Int} {i : Nat} {m : Int}, intsK k vs = some ns → ns[i]? = some m → vs[i]? = some (.int k m)
  | [], ns, i, m, h, hm => by simp [intsK] at h; subst h; simp at hm
  | v :: vs, ns, i, m, h, hm => by
    cases v <;> simp only [intsK] at h <;> try (cases h; done)
    split at h
    · rename_i hk
      subst hk
      simp only [Option.map_eq_some_iff] at h
      obtain ⟨ns', h1, rfl⟩ := h
      cases i with
      | zero => simp at hm; simp [hm]
      | succ i => simp only [List.getElem?_cons_succ] at hm ⊢; exact intsK_get h1 hm
    · cases h
theorem elem_sound {P : Program} {w w0 : World} {γ : Gh} {t : TypeId} {x i v : AV} {u u' : Value} (hx : VSim w0 γ x u) (hi : VSim w0 γ i u') (h : ElemA P t x i v) :
    ∃ r, (Instr.index t u u').run P w = .ok r w ∧ VSim w0 γ v r := by
  unfold ElemA at h
  split at h
  · rename_i vs k' k
    split at h
    · rename_i n el hu
      split at h
      · rename_i kd he
        obtain ⟨hsz, ns, h1, h2, m, h3, rfl⟩ := h
        simp only [VSim] at hi
        obtain ⟨rfl, -⟩ := hi
        have hx' := hx
        simp only [VSim] at hx'
        obtain ⟨us, rfl, h4⟩ := hx'
        unfold atI at h3
        split at h3
        · rename_i h0
          have hlt : k.toNat < ns.length := by
            rw [List.getElem?_eq_some_iff] at h3
            exact h3.1
          have hkn : k < (n : Int) := by omega
          obtain ⟨u, h5, h6⟩ := h4.get (intsK_get h1 h3)
          refine ⟨u, ?_, h6⟩
          have hs1 : (sizeOf el).run P w = .ok 1 w := by rw [run_size (by omega), hsz]
          have hag : (isAgg el).run P w = .ok false w := ti_sc (by rw [he]; rfl)
          simp [Instr.index, asIntOf, run_underlying (ti_arr hu), h0, hkn, hs1, part, hag, h5]
        · cases h3
      · exact h.elim
    · exact h.elim
  · rename_i s k' k
    obtain ⟨hu, m, h1, rfl⟩ := h
    simp only [VSim] at hx hi
    obtain ⟨rfl, -⟩ := hx
    obtain ⟨rfl, -⟩ := hi
    unfold atB at h1
    split at h1
    · rename_i h0
      simp only [Option.map_eq_some_iff] at h1
      obtain ⟨b, hb, rfl⟩ := h1
      refine ⟨.int .u8 b.toNat, by simp [Instr.index, asIntOf, run_underlying (ti_str hu), h0, hb], ?_⟩
      simp only [VSim, true_and]
      have := b.toNat_lt
      simp [Lit.wf, IntKind.min, IntKind.max, IntKind.signed, IntKind.bits]
      omega
    · cases h1
  · exact h.elim
theorem rep_cut {w : World} {sz b off i n : Nat} {rows : List (List D)} (h : RepR w sz b off rows) : RepR w sz b (off + i * sz) ((rows.drop i).take n) :=
  RepR.mk fun k hk => by
    have hk' : i + k < rows.length := by rw [List.length_take, List.length_drop] at hk; omega
    have := h.at (i + k) hk'
    rw [Nat.add_mul, ← Nat.add_assoc] at this
    rw [List.getElem_take, List.getElem_drop]
    exact this
theorem run_bound {P : Program} {w : World} {k : IntKind} {n : Int} {y : Nat} {c : BoundsCode} (h : 0 ≤ n ∧ n ≤ y) : (Instr.sliceBound (.int k n) y c).run P w = .ok n.toNat w := by
  simp [Instr.sliceBound, asIntOf, h.1, h.2]
/-- A bound, as it is told and as it is. -/
theorem bnd_sound {w0 : World} {γ : Gh} {a : Option AV} {v : Option Value} {d n : Int} (hv : ∀ x, a = some x → ∃ u, v = some u ∧ VSim w0 γ x u) (hn : a = none → v = none) (h : bndI a d = some n) : (v = none ∧ n = d) ∨ ∃ k, v = some (.int k n) := by
  cases a with
  | none =>
    simp only [bndI, Option.some.injEq] at h
    exact .inl ⟨hn rfl, h.symm⟩
  | some x =>
    obtain ⟨u, rfl, hu⟩ := hv x rfl
    cases x <;> simp only [bndI] at h <;> try (cases h)
    simp only [VSim] at hu
    rw [hu.1]
    exact .inr ⟨_, rfl⟩
theorem bounds_run {P : Program} {w : World} {b : Bool} {len cap : Nat} {l h : Option Value} {i j : Int} (hl : (l = none ∧ i = 0) ∨ ∃ k, l = some (.int k i)) (hh : (h = none ∧ j = len) ∨ ∃ k, h = some (.int k j)) (hc : len ≤ cap) (h0 : 0 ≤ i ∧ i ≤ j ∧ j ≤ len) :
    (Instr.sliceBounds b len cap l h none).run P w = .ok (i.toNat, j.toNat, cap) w := by
  have hj : (0 : Int) ≤ j ∧ j ≤ cap := by omega
  have hi : (0 : Int) ≤ i ∧ i ≤ j.toNat := by omega
  rcases hl with ⟨rfl, rfl⟩ | ⟨k, rfl⟩
  · rcases hh with ⟨rfl, rfl⟩ | ⟨k', rfl⟩
    · simp [Instr.sliceBounds]
    · simp [Instr.sliceBounds, run_bound hj]
  · rcases hh with ⟨rfl, rfl⟩ | ⟨k', rfl⟩
    · simp [Instr.sliceBounds, run_bound (show (0 : Int) ≤ i ∧ i ≤ (len : Nat) by omega)]
    · simp [Instr.sliceBounds, run_bound hj, run_bound hi]
theorem slice_sound {P : Program} {w w0 : World} {γ : Gh} {t : TypeId} {x v : AV} {l h : Option AV} {u : Value} {ul uh : Option Value} (hx : VSim w0 γ x u) (hl : ∀ y, l = some y → ∃ z, ul = some z ∧ VSim w0 γ y z) (hln : l = none → ul = none) (hh : ∀ y, h = some y → ∃ z, uh = some z ∧ VSim w0 γ y z) (hhn : h = none → uh = none) (hs : SliceA P t x l h v) :
    ∃ r, (Instr.sliceAt t u ul uh none).run P w = .ok r w ∧ VSim w0 γ v r := by
  unfold SliceA at hs
  split at hs
  · rename_i rows
    obtain ⟨el, hu, ⟨hsz, hrl⟩, i, hi, j, hj, r, hr, rfl⟩ := hs
    simp only [VSim, Rep] at hx
    obtain ⟨a, c, rfl, h1, h2, h3⟩ := hx
    unfold cutL at hr
    split at hr
    · rename_i h0
      cases hr
      have hb := bounds_run (P := P) (w := w) (b := true) (bnd_sound hl hln hi) (bnd_sound hh hhn hj) h1 h0
      have hsz' := run_size (P := P) (w := w) hsz
      have hlen : ((rows.drop i.toNat).take (j - i).toNat).length = j.toNat - i.toNat := by rw [List.length_take, List.length_drop]; omega
      refine ⟨.slice (if c = i.toNat then a else a.map (·.add (i.toNat * tsz P el))) (j.toNat - i.toNat) (c - i.toNat), by simp [Instr.sliceAt, Instr.slice, run_underlying (ti_sl hu), hb, hsz'], ?_⟩
      simp only [VSim, Rep]
      refine ⟨_, _, by rw [hlen], by rw [hlen]; omega, by omega, ?_⟩
      by_cases he : j.toNat - i.toNat = 0
      · exact .inl (List.eq_nil_of_length_eq_zero (by rw [hlen]; exact he))
      · rcases h3 with h3 | ⟨sz, b, off, rfl, hR⟩
        · rw [h3] at h0; simp at h0; omega
        · have h5 : 0 < rows.length := by omega
          have h6 := (hR.at 0 h5).1
          have h7 := hrl rows[0] (List.getElem_mem h5)
          have h8 : sz = tsz P el := by omega
          subst h8
          rw [if_neg (by omega)]
          refine .inr ⟨_, b, off + i.toNat * tsz P el, ?_, rep_cut hR⟩
          simp only [Option.map_some, Addr.add]
          split
          · rename_i h9; rw [h9]; rfl
          · rfl
    · cases hr
  · rename_i s
    obtain ⟨hu, i, hi, j, hj, r, hr, rfl⟩ := hs
    simp only [VSim] at hx
    obtain ⟨rfl, hm⟩ := hx
    unfold cutB at hr
    split at hr
    · rename_i h0
      cases hr
      have hb := bounds_run (P := P) (w := w) (b := false) (bnd_sound hl hln hi) (bnd_sound hh hhn hj) (Nat.le_refl _) h0
      refine ⟨.string (s.extract i.toNat j.toNat), by simp [Instr.sliceAt, Instr.slice, run_underlying (ti_str hu), hb], ?_⟩
      simp only [VSim, true_and]
      have : (s.extract i.toNat j.toNat).size ≤ s.size := by rw [ByteArray.size_extract]; omega
      omega
    · cases hr
  · exact hs.elim
theorem repR_u8 {w : World} {sz b : Nat} : ∀ {ns : List Int} {off : Nat}, RepR w sz b off (u8rows ns) → ∀ i, i < ns.length → w.cell? ⟨b, off + i, none⟩ = some (.int .u8 (ns.getD i 0))
  | [], _, _, i, hi => by simp at hi
  | n :: ns, off, h, i, hi => by
    simp only [u8rows, List.map_cons, RepR, RepC, Rep, and_true] at h
    obtain ⟨hl, ⟨u, hu, hr, -⟩, h⟩ := h
    obtain rfl : sz = 1 := by simpa using hl.symm
    cases i with
    | zero => rw [Nat.add_zero, hu, hr]; rfl
    | succ i =>
      have := repR_u8 (ns := ns) h i (by simpa using hi)
      rw [show off + (i + 1) = off + 1 + i from by omega, this]
      rfl
theorem str_sound {P : Program} {w : World} {s d el : TypeId} {v : Value} {ns : List Int} (h : VSim w Gh.none (.ro (u8rows ns)) v) (hm : ns.length ≤ maxLen) (hs : ti P s = .sl el) (he : ti P el = .int .u8) (hd : ti P d = .str) :
    ∃ _ : Unit, (convert s d v).run P w = .ok (.string (strOfNums ns)) w ∧ (strOfNums ns).size ≤ maxLen := by
  have hs' : P.underlying s = some (.slice el) := by unfold ti at hs; split at hs <;> simp_all
  have hd' : P.underlying d = some .string := by unfold ti at hd; split at hd <;> simp_all
  have he' := ti_int he
  refine ⟨(), ?_, by rw [strOfNums_size]; exact hm⟩
  simp only [VSim, Rep] at h
  obtain ⟨a, c, rfl, -, -, h3⟩ := h
  have hlen : (u8rows ns).length = ns.length := by simp [u8rows]
  rw [hlen]
  have h0 : ns = [] → (convert s d (.slice a ns.length c)).run P w = .ok (.string (strOfNums ns)) w := by
    rintro rfl
    cases a with
    | none => exact run_convert_bytes_nil w s el hs' he' _ _ d hd'
    | some a =>
      rw [run_convert_bytes_string w s d el _ _ c hs' he' hd']
      have h5 := run_loadCells_list (P := P) w a [] (fun j v hj => by simp at hj)
      have h6 := run_bytesToString (P := P) w a 0 c [] h5
      exact h6
  rcases h3 with h3 | ⟨sz, b, off, rfl, hR⟩
  · exact h0 (by simpa [u8rows] using h3)
  · exact run_convert_bytes_arg w s el hs' he' b off _ c ns rfl (repR_u8 hR) d hd'
theorem one_of_toList {α : Type} {xs : Array α} {x : α} (h : xs.toList = [x]) : xs = #[x] := by cases xs; simp_all
theorem parts_sound {w0 : World} {γ : Gh} {e : Operand → AV} {ρ : Operand → Value} {sz : Nat} : ∀ {parts : List (Nat × Operand)} {k : Nat} {vs : List AV}, (∀ x ∈ parts, VSim w0 γ (e x.2) (ρ x.2)) → partsCells sz k (parts.map fun x => (x.1, e x.2)) = some vs →
    parts.map (fun x => (x.1, ρ x.2)) = ((parts.map fun x => ρ x.2).zipIdx k).map (fun x => (x.2, x.1)) ∧ (∀ x ∈ parts, (ρ x.2).cells.size = sz) ∧ VSims w0 γ vs ((parts.map fun x => (ρ x.2).cells.toList).flatten) ∧ vs.length = parts.length * sz
  | [], k, vs, h, hp => by
    simp only [List.map_nil, partsCells, Option.some.injEq] at hp
    subst hp
    exact ⟨rfl, by simp, by simp [VSims], by simp⟩
  | (i, x) :: parts, k, vs, h, hp => by
    simp only [List.map_cons, partsCells] at hp
    split at hp
    · rename_i hk
      subst hk
      cases h1 : cellsOf (e x) with
      | none => simp [h1] at hp
      | some v1 =>
        cases h2 : partsCells sz (k + 1) (parts.map fun x => (x.1, e x.2)) with
        | none => simp [h1, h2] at hp
        | some v2 =>
          simp only [h1, h2] at hp
          split at hp
          · rename_i hl
            simp only [Option.some.injEq] at hp; subst hp
            obtain ⟨k1, k2, k3, k4⟩ := parts_sound (fun y hy => h y (by simp [hy])) h2
            have hc := cellsOf_sound (h (k, x) (by simp)) h1
            have hcl := hc.length
            refine ⟨by simp [k1], fun y hy => ?_, by simpa using hc.append k3, by simp [hl, k4, Nat.add_mul]; omega⟩
            rcases List.mem_cons.1 hy with rfl | hy
            · rw [← Array.length_toList]; show (ρ x).cells.toList.length = sz; have hcl' : (ρ x).cells.toList.length = v1.length := hcl; omega
            · exact k2 y hy
          · cases hp
    · cases hp

section
variable {cx : Cx} {γ : Gh} {T : Nat → Option Tok} {B : Nat → Option (List AV)} {w : World} {o : Oper} {a : Act} {next : Act → World → Prop} {Q : Exit → Act → World → Prop}

theorem ev_box (hs : OSim cx γ T B w) {b : Nat} {vs : List AV} {us : List Value} {av : AV} {v : Value} (e : TypeId) (hn : ¬ γ.bl b) (hB : B b = some vs) (hv : VSims cx.w0 γ vs us)
    (hr : (execOp a.eval o).run cx.P w = .ok (.value v) (w.alloc (.cells us.toArray e)))
    (hav : ∀ γ' : Gh, γ'.bl b → γ'.bb b = w.heap.size → γ'.bo b = 0 → VSim cx.w0 γ' av v)
    (hk : EvK cx γ T B o a next ⟨av, [], [(b, vs)]⟩) : o.wp cx.P a w next Q := by
  refine wp_val hr (hk v _ (γ.box b w.heap.size) (Gh.box_ext hn) (fun t h => .inl h) (fun x h => ?_) (hs.newBox hn hB hv e) (hav _ (.inr rfl) ?_ ?_))
  · rcases h with h | rfl
    · exact .inl h
    · exact .inr ⟨(x, vs), by simp, rfl⟩
  · show (if b = b then _ else _) = _; rw [if_pos rfl]
  · show (if b = b then _ else _) = _; rw [if_pos rfl]

theorem low_of (hs : OSim cx γ T B w) : cx.P.low ≤ w.heap.size := Nat.le_trans cx.lowe hs.frm.size

theorem ev_call (hs : OSim cx γ T B w) {f : FuncId} {caps : List AV} {cv : List Value} {args : List AV} {us : List Value} {as : List AV} {rv : RV} {n : Nat}
    (hc : VSims cx.w0 γ (args ++ caps) (us ++ cv)) (hcl : cls T B (args ++ caps) = some as) (hac : AC cx.P f as rv)
    (hT : ∀ x ∈ (conv n rv).2, T x.1 = some x.2 ∧ ¬ γ.tl x.1)
    (hr : (execOp a.eval o).run cx.P w = (callFunc f (us ++ cv).toArray).run cx.P w)
    (hk : EvK cx γ T B o a next ⟨(conv n rv).1, (conv n rv).2, []⟩) : o.wp cx.P a w next Q := by
  obtain ⟨hb, hac⟩ := hac
  unfold callable at hb
  cases hf : cx.P.funcs[f]? with
  | none => simp [hf] at hb
  | some fn =>
    simp only [hf, Option.any_some, Bool.and_eq_true, Bool.not_eq_true', beq_eq_false_iff_ne] at hb
    have hrun : (callFunc f (us ++ cv).toArray).run cx.P w = .ok (.enter f (us ++ cv).toArray) w := by
      obtain ⟨c, h1⟩ := Option.isSome_iff_exists.1 hb.1
      simp [callFunc, hf, hb.2, h1]
    unfold Oper.wp
    rw [hr, hrun]
    simp only [Oper.upon]
    refine (hac w (us ++ cv) hs.frm.sh (low_of hs) (cls_sound hs.vw hc hcl)).mono ?_
    rintro e w' ⟨v, fp, rfl, h1, h2, h3, h4⟩
    simp only
    obtain ⟨tv, tf, k1, k2⟩ := conv_sound cx.w0 n h1 h2
    have hids : ∀ t ∈ (conv n rv).2.map (·.1), ∃ x ∈ (conv n rv).2, x.1 = t := fun t ht => by simpa using ht
    have hnt : ∀ t ∈ (conv n rv).2.map (·.1), ¬ γ.tl t := fun t ht => by
      obtain ⟨x, hx, rfl⟩ := hids t ht
      exact (hT x hx).2
    refine hk v w' (γ.toks w' ((conv n rv).2.map (·.1)) tv tf) (Gh.toks_ext hnt) (fun t h => ?_) (fun b h => .inl h) (hs.newToks h4 hnt (fun t ht tk htk => ?_) fun t ht t' ht' hne => ?_) (k2 _ fun x hx => ⟨.inr (List.mem_map.2 ⟨x, hx, rfl⟩), ?_⟩)
    · rcases h with h | h
      · exact .inl h
      · exact .inr (hids t h)
    · obtain ⟨x, hx, rfl⟩ := hids t ht
      have := (hT x hx).1
      rw [htk] at this
      simp only [Option.some.injEq] at this
      obtain ⟨m1, m2, m3⟩ := k1.ok x hx
      exact ⟨⟨by rw [this]; exact m1, m2, fun g hg => h3 g (m3 g hg)⟩, by rw [this]; exact conv_gen n rv x hx⟩
    · obtain ⟨x, hx, rfl⟩ := hids t ht
      obtain ⟨y, hy, rfl⟩ := hids t' ht'
      exact k1.dis x hx y hy hne
    · show (if x.1 ∈ (conv n rv).2.map (·.1) then _ else _) = _
      rw [if_pos (List.mem_map.2 ⟨x, hx, rfl⟩)]

theorem VSims.of_map {w0 : World} {γ : Gh} {e : Operand → AV} {ρ : Operand → Value} : ∀ {l : List Operand}, (∀ x ∈ l, VSim w0 γ (e x) (ρ x)) → VSims w0 γ (l.map e) (l.map ρ)
  | [], _ => by simp [VSims]
  | x :: l, h => by
    simp only [List.map_cons, VSims]
    exact ⟨_, _, rfl, h x (by simp), VSims.of_map fun y hy => h y (by simp [hy])⟩

theorem mapM_run {P : Program} {w : World} {α β : Type} (g : α → Sem β) (h : α → β) : ∀ l : List α, (∀ x ∈ l, (g x).run P w = .ok (h x) w) → (l.mapM g).run P w = .ok (l.map h) w
  | [], _ => rfl
  | x :: l, hx => by
    rw [List.mapM_cons]
    simp [hx x (by simp), mapM_run g h l fun y hy => hx y (by simp [hy])]

set_option maxHeartbeats 1000000 in
theorem ev_sound {pos : Nat} {e : Operand → AV} {r : Res} (hev : Ev cx.P pos o e T B r) (hop : ∀ x ∈ o.op.operands, VSim cx.w0 γ (e x) (a.eval x)) (hs : OSim cx γ T B w)
    (hT : ∀ x ∈ r.t, T x.1 = some x.2 ∧ ¬ γ.tl x.1) (hB : ∀ x ∈ r.b, B x.1 = some x.2 ∧ ¬ γ.bl x.1) (hk : EvK cx γ T B o a next r) : o.wp cx.P a w next Q := by
  obtain ⟨dst, op, ty, ps, after, guard⟩ := o
  unfold Ev at hev
  dsimp only at hev hop
  split at hev
  · -- move
    rename_i x
    subst hev
    exact ev_plain hs (by simp [execOp]) (hop x (by simp [Op.operands])) hk
  · rename_i x
    subst hev
    exact ev_plain hs (by simp [execOp]) (hop x (by simp [Op.operands])) hk
  · -- pick
    rename_i c x y
    obtain ⟨t, hc, rfl⟩ := hev
    have h1 := hop c (by simp [Op.operands])
    rw [hc] at h1
    simp only [VSim] at h1
    cases t
    · exact ev_plain hs (by simp [execOp, h1, asBool]) (hop y (by simp [Op.operands])) hk
    · exact ev_plain hs (by simp [execOp, h1, asBool]) (hop x (by simp [Op.operands])) hk
  · -- box
    rename_i t x
    split at hev
    · rename_i vs hc
      subst hev
      have h1 := cellsOf_sound (hop x (by simp [Op.operands])) hc
      have hb := hB (pos, vs) (by simp)
      refine ev_box hs t hb.2 hb.1 h1 (v := .pointer (some ⟨w.heap.size, 0, none⟩)) ?_ (fun γ' h2 h3 h4 => ?_) hk
      · simp [execOp, Instr.box, newVar, newRow]
      · simp only [VSim]; exact ⟨h2, by rw [h3, h4]⟩
    · exact hev.elim
  · -- load
    rename_i t x
    obtain ⟨v, h1, rfl⟩ := hev
    obtain ⟨u, h2, h3⟩ := load_sound hs (hop x (by simp [Op.operands])) h1
    exact ev_plain hs (by simp [execOp, h2]) h3 hk
  · -- nilCheck
    rename_i x
    have h1 := hop x (by simp [Op.operands])
    split at hev
    · rename_i b off he
      subst hev
      rw [he] at h1
      have h2 := h1
      simp only [VSim] at h1
      exact ev_plain hs (by simp [execOp, h1.2]; rfl) (by rw [← h1.2]; exact h2) hk
    · rename_i ds off he
      subst hev
      rw [he] at h1
      have h2 := h1
      simp only [VSim] at h1
      obtain ⟨b, o, us, h3, -⟩ := h1
      exact ev_plain hs (by simp [execOp, h3]; rfl) (by rw [← h3]; exact h2) hk
    · rename_i t sz i off he
      subst hev
      rw [he] at h1
      have h2 := h1
      simp only [VSim] at h1
      obtain ⟨-, g, o, n, c, -, h3⟩ := h1
      exact ev_plain hs (by simp [execOp, h3]; rfl) (by rw [← h3]; exact h2) hk
    · rename_i t g p sz i off he
      subst hev
      rw [he] at h1
      have h2 := h1
      simp only [VSim] at h1
      obtain ⟨-, b, o, n, c, -, h3⟩ := h1
      exact ev_plain hs (by simp [execOp, h3]; rfl) (by rw [← h3]; exact h2) hk
    · exact hev.elim
  · -- binOp
    rename_i op t x y yt
    obtain ⟨v, h1, rfl⟩ := hev
    obtain ⟨u, h2, h3⟩ := bin_sound (w := w) (ox := x) (oy := y) (hop x (by simp [Op.operands])) (hop y (by simp [Op.operands])) h1
    refine ev_plain hs (v := u) ?_ h3 hk
    simp only [execOp, Sem.run_bind] at h2 ⊢
    rw [h2]; rfl
  · -- unOp
    rename_i op t x
    obtain ⟨v, h1, rfl⟩ := hev
    obtain ⟨u, h2, h3⟩ := uno_sound (w := w) (hop x (by simp [Op.operands])) h1
    exact ev_plain hs (by simp [execOp, h2]) h3 hk
  · -- convert
    rename_i s d x
    split at hev
    · rename_i k k' n hd he
      obtain ⟨hsc, rfl⟩ := hev
      have h1 := hop x (by simp [Op.operands])
      rw [he] at h1
      simp only [VSim] at h1
      have hu : ∃ d, cx.P.underlying s = some d := by
        unfold ti at hsc
        split at hsc <;> simp [TI.sc] at hsc <;> (rename_i hu; exact ⟨_, hu⟩)
      obtain ⟨ds, hu⟩ := hu
      exact ev_plain hs (v := .int k (k.wrap n)) (by simp [execOp, h1.1, convert, run_underlying hu, run_underlying (ti_int hd), Conv.intToInt]) (vs_int (wf_wrap _ _)) hk
    · rename_i hd
      obtain ⟨el, ns, hsl, hel, hmx, hc, rfl⟩ := hev
      have h1 := cl_sound hs.vw (hop x (by simp [Op.operands])) hc
      obtain ⟨-, hu, hsz⟩ := str_sound h1 hmx hsl hel hd
      exact ev_plain hs (by simp [execOp, hu]) (vs_str hsz) hk
    · exact hev.elim
  · -- fieldAddr
    rename_i s x f
    have h1 := hop x (by simp [Op.operands])
    have key : ∀ q, fOff cx.P s f = some q → 0 < tsz cx.P q.2 → ∀ g o, (Instr.fieldAt s (.pointer (some ⟨g, o, none⟩)) f).run cx.P w = .ok (.pointer (some ⟨g, o + q.1, none⟩)) w := by
      intro q hq hz g o
      unfold fOff at hq
      split at hq
      · rename_i fs hfs
        obtain ⟨gs, hgs, rfl⟩ := ti_st hfs
        rw [List.getElem?_map, Array.getElem?_toList] at hq
        cases hg : gs[f]? with
        | none => simp [hg] at hq
        | some fd =>
          simp only [hg, Option.map_some, Option.some.injEq] at hq
          subst hq
          have hz' : tsz cx.P fd.type ≠ 0 := by simp only at hz; omega
          simp [Instr.fieldAt, run_underlying hgs, hg, Instr.sureAddr, fieldPlace, run_size hz, hz', Addr.add_lit]
      · cases hq
    split at hev
    · rename_i b off he
      obtain ⟨q, hq, hz, rfl⟩ := hev
      rw [he] at h1
      simp only [VSim] at h1
      exact ev_plain hs (by simp [execOp, h1.2, key q hq hz]; rfl) (by simp only [VSim]; exact ⟨h1.1, by rw [Nat.add_assoc]⟩) hk
    · rename_i ds off he
      obtain ⟨q, hq, hz, rfl⟩ := hev
      rw [he] at h1
      simp only [VSim] at h1
      obtain ⟨b, o, us, h3, h4⟩ := h1
      exact ev_plain hs (by simp [execOp, h3, key q hq hz]; rfl) (by simp only [VSim]; exact ⟨b, o, us, by rw [Nat.add_assoc], h4⟩) hk
    · rename_i t sz i off he
      obtain ⟨q, hq, hz, rfl⟩ := hev
      rw [he] at h1
      simp only [VSim] at h1
      obtain ⟨h2, g, o, n, c, h3, h4⟩ := h1
      exact ev_plain hs (by simp [execOp, h4, key q hq hz]; rfl) (by simp only [VSim]; exact ⟨h2, g, o, n, c, h3, by rw [Nat.add_assoc _ off]⟩) hk
    · rename_i t g p sz i off he
      obtain ⟨q, hq, hz, rfl⟩ := hev
      rw [he] at h1
      simp only [VSim] at h1
      obtain ⟨h2, b, o, n, c, h3, h4⟩ := h1
      exact ev_plain hs (by simp [execOp, h4, key q hq hz]; rfl) (by simp only [VSim]; exact ⟨h2, b, o, n, c, h3, by rw [Nat.add_assoc _ off]⟩) hk
    · exact hev.elim
  · -- field
    rename_i s x f
    have h1 := hop x (by simp [Op.operands])
    split at hev
    · rename_i vs he
      obtain ⟨q, hq, hev⟩ := hev
      rw [he] at h1
      simp only [VSim] at h1
      obtain ⟨us, h2, h3⟩ := h1
      have hl := h3.length
      unfold fOff at hq
      split at hq
      · rename_i fs hfs
        obtain ⟨gs, hgs, rfl⟩ := ti_st hfs
        rw [List.getElem?_map, Array.getElem?_toList] at hq
        cases hg : gs[f]? with
        | none => simp [hg] at hq
        | some fd =>
          simp only [hg, Option.map_some, Option.some.injEq] at hq
          subst hq
          simp only at hev
          split at hev
          · rename_i hagg
            obtain ⟨hle, rfl⟩ := hev
            refine ev_plain hs (v := .agg ((us.drop fd.offset).take (tsz cx.P fd.type)).toArray) ?_ (by simp only [VSim]; exact ⟨_, rfl, h3.take_drop _ _⟩) hk
            simp [execOp, h2, Instr.field, run_underlying hgs, hg, asAgg, part, ti_isAgg hagg, isAgg_size hagg]
          · obtain ⟨hsc, v, hv, rfl⟩ := hev
            obtain ⟨u, h4, h5⟩ := h3.get hv
            exact ev_plain hs (v := u) (by simp [execOp, h2, Instr.field, run_underlying hgs, hg, asAgg, part, ti_sc hsc, h4]) h5 hk
      · cases hq
    · exact hev.elim
  · -- indexAddr
    rename_i t x i
    obtain ⟨v, h1, rfl⟩ := hev
    obtain ⟨u, h2, h3⟩ := idx_sound hs (hop x (by simp [Op.operands])) (hop i (by simp [Op.operands])) h1
    exact ev_plain hs (by simp [execOp, h2]) h3 hk
  · -- index
    rename_i t x i
    obtain ⟨v, h1, rfl⟩ := hev
    obtain ⟨u, h2, h3⟩ := elem_sound (w := w) (hop x (by simp [Op.operands])) (hop i (by simp [Op.operands])) h1
    exact ev_plain hs (by simp [execOp, h2]) h3 hk
  · -- slice
    rename_i t x l h
    obtain ⟨v, h1, rfl⟩ := hev
    obtain ⟨u, h2, h3⟩ := slice_sound (w := w) (ul := l.map a.eval) (uh := h.map a.eval) (hop x (by simp [Op.operands])) (fun y hy => by
      cases l with
      | none => cases hy
      | some q => cases hy; exact ⟨_, rfl, hop q (by simp [Op.operands])⟩) (fun hy => by cases l <;> simp_all) (fun y hy => by
      cases h with
      | none => cases hy
      | some q => cases hy; exact ⟨_, rfl, hop q (by simp [Op.operands])⟩) (fun hy => by cases h <;> simp_all) h1
    exact ev_plain hs (by cases l <;> cases h <;> (simp only [Option.map_none, Option.map_some] at h2; simp [execOp, h2])) h3 hk
  · -- extract
    rename_i x i
    have h1 := hop x (by simp [Op.operands])
    split at hev
    · rename_i vs he
      obtain ⟨v, hv, rfl⟩ := hev
      rw [he] at h1
      simp only [VSim] at h1
      obtain ⟨us, h2, h3⟩ := h1
      obtain ⟨u, h4, h5⟩ := h3.get hv
      exact ev_plain hs (v := u) (by simp [execOp, h2, Instr.extract, h4]) h5 hk
    · exact hev.elim
  · -- makeFunc
    rename_i f first caps
    obtain ⟨rfl, rfl⟩ := hev
    refine ev_plain hs (v := .func (.func f) #[] (caps.map a.eval)) (by simp [execOp, Instr.makeFunc]) ?_ hk
    simp only [VSim]
    exact ⟨caps.toList.map a.eval, by rw [← Array.toList_map, Array.toArray_toList], VSims.of_map fun x hx => hop x (by simp [Op.operands]; exact Array.mem_toList_iff.1 hx)⟩
  · -- len
    rename_i args argTypes
    split at hev
    · rename_i x t hx ht
      obtain ⟨v, h1, rfl⟩ := hev
      obtain rfl : args = #[x] := one_of_toList hx
      obtain rfl : argTypes = #[t] := one_of_toList ht
      obtain ⟨u, h2, h3⟩ := len_sound (ty := ty) hs (hop x (by simp [Op.operands, Call.operands])) h1
      exact ev_plain hs (by simp [execOp, resolve, invoke, builtin, h2]) h3 hk
    · exact hev.elim
  · -- max
    rename_i args argTypes
    split at hev
    · rename_i x y hx
      have hargs : args = #[x, y] := by cases args; simp_all
      subst hargs
      have h1 := hop x (by simp [Op.operands, Call.operands])
      have h2 := hop y (by simp [Op.operands, Call.operands])
      split at hev
      · rename_i k n k' m hx' hy'
        obtain ⟨rfl, rfl⟩ := hev
        rw [hx'] at h1; rw [hy'] at h2
        simp only [VSim] at h1 h2
        refine ev_plain hs (v := .int k (if n < m then m else n)) ?_ (vs_int ?_) hk
        · simp [execOp, resolve, invoke, builtin, run_max_int2, h1.1, h2.1]
        · split
          · exact h2.2
          · exact h1.2
      · exact hev.elim
    · exact hev.elim
  · -- min
    rename_i args argTypes
    split at hev
    · rename_i x y hx
      have hargs : args = #[x, y] := by cases args; simp_all
      subst hargs
      have h1 := hop x (by simp [Op.operands, Call.operands])
      have h2 := hop y (by simp [Op.operands, Call.operands])
      split at hev
      · rename_i k n k' m hx' hy'
        obtain ⟨rfl, rfl⟩ := hev
        rw [hx'] at h1; rw [hy'] at h2
        simp only [VSim] at h1 h2
        refine ev_plain hs (v := .int k (if m < n then m else n)) ?_ (vs_int ?_) hk
        · simp [execOp, resolve, invoke, builtin, run_min_int2, h1.1, h2.1]
        · split
          · exact h2.2
          · exact h1.2
      · exact hev.elim
    · exact hev.elim
  · -- call
    rename_i g args argTypes
    unfold CallA at hev
    have h1 := hop g (by simp [Op.operands, Call.operands])
    split at hev
    · rename_i f caps he
      rw [he] at h1
      simp only [VSim] at h1
      obtain ⟨cv, h2, h3⟩ := h1
      split at hev
      · rename_i as hcl
        obtain ⟨rv, hac, rfl⟩ := hev
        refine ev_call hs (us := args.toList.map a.eval) ((VSims.of_map fun x hx => hop x (by simp [Op.operands, Call.operands]; exact .inr (Array.mem_toList_iff.1 hx))).append h3) hcl hac hT ?_ hk
        have e1 : (args.toList.map a.eval ++ cv).toArray = Array.map a.eval args ++ cv.toArray := by
          apply Array.toList_inj.1; simp
        rw [e1]
        simp [execOp, resolve, h2, Deferred.ofValue, invoke]
      · exact hev.elim
    · exact hev.elim
  · -- buildSlice
    rename_i t n parts
    split at hev
    · rename_i el hel
      obtain ⟨hlen, hmax, hsz, hz, hev⟩ := hev
      split at hev
      · rename_i vs hp
        subst hev
        obtain ⟨k1, k2, k3, k4⟩ := parts_sound (ρ := a.eval) (fun x hx => hop x.2 (by simp [Op.operands]; exact ⟨x.1, Array.mem_toList_iff.1 hx⟩)) hp
        rw [List.length_map] at hlen
        have hb := hB (pos, vs) (by simp)
        obtain ⟨i, hi1, hi2⟩ := tsz_info hsz
        have hzero : ∃ z, i.zero = some z ∧ z.cells.toList = tz cx.P el := by
          unfold tz at hz ⊢
          simp only [hi1, Option.bind_some] at hz ⊢
          cases hzz : i.zero with
          | none => simp [hzz] at hz; omega
          | some z => exact ⟨z, rfl, by simp⟩
        obtain ⟨z, hz1, hz2⟩ := hzero
        refine ev_box hs el hb.2 hb.1 k3 (v := .slice (some ⟨w.heap.size, 0, none⟩) n n) ?_ (fun γ' h2 h3 h4 => ?_) hk
        · have hfill := fill_all (tsz cx.P el) (parts.toList.map fun x => a.eval x.2) 0 [] (((Array.range (n * tsz cx.P el)).map (z.cells[· % z.cells.size]!)).toList) (fun v hv => by
            obtain ⟨x, hx, rfl⟩ := List.mem_map.1 hv; exact k2 x hx) (by simp) (by simp [← hlen])
          rw [← k1] at hfill
          have hsz' : tsz cx.P el ≠ 0 := by omega
          have hn0 : ¬ (2 ^ 24 < n * tsz cx.P el) := by omega
          have e1 : (parts.map fun x => (x.1, a.eval x.2)).toList = parts.toList.map fun x => (x.1, a.eval x.2) := by simp
          have e2 : (parts.toList.map fun x => a.eval x.2).map (fun v => v.cells.toList) = parts.toList.map fun x => (a.eval x.2).cells.toList := by simp
          simp only [List.nil_append, Array.toArray_toList] at hfill
          rw [e2] at hfill
          by_cases hnz : n * tsz cx.P el = 0
          · have hn : n = 0 := by
              rcases Nat.mul_eq_zero.1 hnz with h | h
              · exact h
              · omega
            subst hn
            have hp0 : parts.toList = [] := List.eq_nil_of_length_eq_zero hlen
            have hp1 : parts = #[] := by simpa using hp0
            subst hp1
            have e0 : Array.range 0 = #[] := by simp [Array.range]
            simp [execOp, Instr.buildSlice, run_underlying (ti_sl hel), run_size hsz, Instr.fill, newRow, e0]
          · simp only [execOp, Instr.buildSlice, Sem.run_bind, run_underlying (ti_sl hel), Result.andThen_ok, run_size hsz, Sem.run_ite, if_neg hn0, hnz, if_false, zeroValue, typeInfo, run_program, hi1, hz1, Sem.run_pure]
            have e3 : (Array.map (fun x => match x with | (i, x) => (i, a.eval x)) parts).toList = parts.toList.map fun x => (x.1, a.eval x.2) := by simp
            simp [e3, hfill, newRow]
        · simp only [VSim]
          exact ⟨h2, by have := Nat.le_mul_of_pos_right n hsz; unfold maxLen; omega, by rw [h3, h4]⟩
      · exact hev.elim
    · exact hev.elim
  · -- alloc
    rename_i t
    obtain ⟨vs, hz, hl, rfl⟩ := hev
    have hb := hB (pos, vs.map zAV) (by simp)
    have hzero : ∃ z, (zeroValue t).run cx.P w = .ok z w ∧ z.cells.toList = vs := by
      unfold tz at hz
      cases hi : cx.P.info? t with
      | none => simp [hi] at hz; subst hz; simp at hl
      | some i =>
        cases hzz : i.zero with
        | none => simp [hi, hzz] at hz; subst hz; simp at hl
        | some z => exact ⟨z, by simp [zeroValue, typeInfo, hi, hzz], by simpa [hi, hzz] using hz⟩
    obtain ⟨z, hz1, hz2⟩ := hzero
    refine ev_box hs (us := vs) t hb.2 hb.1 (VSims.mk (by simp) fun i x u h1 h2 => ?_) (v := .pointer (some ⟨w.heap.size, 0, none⟩)) ?_ (fun γ' h2 h3 h4 => ?_) hk
    · rw [List.getElem?_map, h2] at h1
      simp only [Option.map_some, Option.some.injEq] at h1
      subst h1; exact zAV_sound u
    · subst hz2
      simp [execOp, Instr.alloc, hz1, newVar, newRow]
    · simp only [VSim]; exact ⟨h2, by rw [h3, h4]⟩
  · -- build
    rename_i t parts
    split at hev
    · rename_i fs hfs
      obtain ⟨hall, hpos, ws, hb, rfl⟩ := hev
      obtain ⟨gs, hu, rfl⟩ := ti_st hfs
      rw [List.all_eq_true] at hall
      have hzero : ∃ z, (zeroValue t).run cx.P w = .ok z w ∧ z.cells.toList = tz cx.P t := by
        unfold tz at hpos ⊢
        cases hi : cx.P.info? t with
        | none => simp [hi] at hpos
        | some i =>
          cases hzz : i.zero with
          | none => simp [hi, hzz] at hpos
          | some z => exact ⟨z, by simp [zeroValue, typeInfo, hi, hzz], by simp [hzz]⟩
      obtain ⟨z, hz1, hz2⟩ := hzero
      have hall' : ∀ f ∈ gs.toList, 0 < tsz cx.P f.type := fun f hf => by
        have := hall (f.offset, f.type) (List.mem_map.2 ⟨f, hf, rfl⟩)
        simpa using this
      have hpl := mapM_run (P := cx.P) (w := w) (fun f : Field => Functor.map (Prod.mk f.offset) (sizeOf f.type)) (fun f => (f.offset, tsz cx.P f.type)) gs.toList fun f hf => by simp [run_size (w := w) (hall' f hf)]
      obtain ⟨us', h1, h2⟩ := build_sound (ρ := a.eval) (pl := fun x => Option.map (fun f : Field => (f.offset, tsz cx.P f.type)) gs[x]?) (fs := gs.toList.map fun f => (f.offset, f.type)) (fun f q hq => by
        simp only [List.getElem?_map, Array.getElem?_toList] at hq
        cases hg : gs[f]? with
        | none => simp [hg] at hq
        | some g => simp only [hg, Option.map_some, Option.some.injEq] at hq ⊢; rw [← hq])
        (fun x hx => hop x.2 (by simp [Op.operands]; exact ⟨x.1, Array.mem_toList_iff.1 hx⟩))
        (VSims.mk (us := tz cx.P t) (by simp) fun i x u h1 h2 => by
          rw [List.getElem?_map, h2] at h1
          simp only [Option.map_some, Option.some.injEq] at h1
          subst h1; exact zAV_sound u) hb
      refine ev_plain hs (v := .agg us'.toArray) ?_ (by simp only [VSim]; exact ⟨us', rfl, h2⟩) hk
      have e0 : z.cells.toList.toArray = z.cells := Array.toArray_toList
      rw [← hz2, e0] at h1
      have e1 : (Array.map (fun x => match x with | (i, x) => (i, a.eval x)) parts).toList = parts.toList.map fun x => (x.1, a.eval x.2) := by simp
      simp only [execOp, Instr.build, Sem.run_bind, hz1, Result.andThen_ok, run_underlying hu]
      rw [Array.mapM_eq_mapM_toList]
      simp [hpl, h1, e1]
    · rename_i n el hfs
      obtain ⟨hsz, hall, hpos, ws, hb, rfl⟩ := hev
      have hu := ti_arr hfs
      have hzero : ∃ z, (zeroValue t).run cx.P w = .ok z w ∧ z.cells.toList = tz cx.P t := by
        unfold tz at hpos ⊢
        cases hi : cx.P.info? t with
        | none => simp [hi] at hpos
        | some i =>
          cases hzz : i.zero with
          | none => simp [hi, hzz] at hpos
          | some z => exact ⟨z, by simp [zeroValue, typeInfo, hi, hzz], by simp [hzz]⟩
      obtain ⟨z, hz1, hz2⟩ := hzero
      obtain ⟨us', h1, h2⟩ := build_sound (ρ := a.eval) (pl := fun i => some (i * tsz cx.P el, tsz cx.P el)) (fs := arrFs (tsz cx.P el) el n 0) (fun f q hq => by
        rw [arrFs_get hq]; simp)
        (fun x hx => hop x.2 (by simp [Op.operands]; exact ⟨x.1, Array.mem_toList_iff.1 hx⟩))
        (VSims.mk (us := tz cx.P t) (by simp) fun i x u h1 h2 => by
          rw [List.getElem?_map, h2] at h1
          simp only [Option.map_some, Option.some.injEq] at h1
          subst h1; exact zAV_sound u) hb
      refine ev_plain hs (v := .agg us'.toArray) ?_ (by simp only [VSim]; exact ⟨us', rfl, h2⟩) hk
      have e0 : z.cells.toList.toArray = z.cells := Array.toArray_toList
      rw [← hz2, e0] at h1
      have e1 : (Array.map (fun x => match x with | (i, x) => (i, a.eval x)) parts).toList = parts.toList.map fun x => (x.1, a.eval x.2) := by simp
      simp only [execOp, Instr.build, Sem.run_bind, hz1, Result.andThen_ok, run_underlying hu, run_size hsz]
      simp [h1, e1]
    · exact hev.elim
  · -- makeSlice
    rename_i t l c
    split at hev
    · rename_i el n m hel hl hc
      obtain ⟨rfl, h0, hb, h63, hsz, htz, z, hz, rfl⟩ := hev
      have k1 := hop l (by simp [Op.operands])
      have k2 := hop c (by simp [Op.operands])
      rw [hl] at k1; rw [hc] at k2
      simp only [VSim] at k1 k2
      obtain ⟨i, hi, his⟩ := tsz_info (P := cx.P) (t := el) hsz
      have hzero : ∃ zv, i.zero = some zv ∧ zv.cells.toList = tz cx.P el := by
        unfold tz at htz ⊢
        simp only [hi, Option.bind_some] at htz ⊢
        cases hzz : i.zero with
        | none => simp [hzz] at htz; omega
        | some zv => exact ⟨zv, rfl, by simp⟩
      obtain ⟨zv, hz1, hz2⟩ := hzero
      have hby : cx.P.bytesOf el = i.bytes := by simp [Program.bytesOf, hi]
      rw [hby] at hb
      obtain ⟨n', rfl⟩ := Int.eq_ofNat_of_zero_le h0
      simp only [Int.toNat_natCast] at hb
      have hr := run_make (P := cx.P) w t el i zv (ti_sl hel) hi hz1 .i64 .i64 (n' : Int) (n' : Int) h0 (Int.le_refl _) (by
        have : ((n' * i.bytes : Nat) : Int) ≤ 281474976710656 := by omega
        rw [Int.natCast_mul] at this
        rw [Int.mul_comm]; exact this) (by omega)
      simp only [Int.toNat_natCast] at hr
      have hids : ∀ x ∈ [pos * 16], ¬ γ.tl x := fun x hx => by
        simp only [List.mem_singleton] at hx; subst hx
        exact (hT (pos * 16, ⟨List.replicate ((n' : Int)).toNat z, some (tsz cx.P el), 0⟩) (by simp)).2
      have htok := (hT (pos * 16, ⟨List.replicate ((n' : Int)).toNat z, some (tsz cx.P el), 0⟩) (by simp)).1
      simp only [Int.toNat_natCast] at htok
      have hbel : Below w.heap.size w (w.alloc (.cells (madeCells zv.cells (n' * i.size)) el)) := (Below.refl _ w).alloc (Nat.le_refl _) _
      have hlen : (madeCells zv.cells (n' * i.size)).toList.length = n' * tsz cx.P el := by rw [Array.length_toList, size_madeCells, his]
      have hzl : zv.cells.size = tsz cx.P el := by rw [← Array.length_toList, hz2, htz]
      refine wp_val (v := .slice (some ⟨w.heap.size, 0, none⟩) n' n') (w' := w.alloc (.cells (madeCells zv.cells (n' * i.size)) el)) (by simp [execOp, k1.1, k2.1, hr]) (hk _ _ (γ.toks (w.alloc (.cells (madeCells zv.cells (n' * i.size)) el)) [pos * 16] (fun _ => .slice (some ⟨w.heap.size, 0, none⟩) n' n') (fun _ => [w.heap.size])) (Gh.toks_ext hids) (fun x hx => ?_) (fun b h => .inl h) (hs.newToks hbel hids (fun x hx tk htk => ?_) fun x hx y hy hne => ?_) ?_)
      · rcases hx with h | h
        · exact .inl h
        · simp only [List.mem_singleton] at h; exact .inr ⟨(pos * 16, ⟨List.replicate ((n' : Int)).toNat z, some (tsz cx.P el), 0⟩), by simp, h.symm⟩
      · simp only [List.mem_singleton] at hx; subst hx
        have : T (pos * 16) = some ⟨List.replicate n' z, some (tsz cx.P el), 0⟩ := htok
        rw [this] at htk
        cases htk
        have hR : OwnR (w.alloc (.cells (madeCells zv.cells (n' * i.size)) el)) (madeCells zv.cells (n' * i.size)).toList (tsz cx.P el) 0 (List.replicate n' z) [] := by
          refine ownR_z hz htz hsz n' 0 fun j hj => ?_
          rw [Nat.zero_add, ← hz2]
          have hm : j % zv.cells.size < zv.cells.size := Nat.mod_lt _ (by omega)
          have hj' : j < n' * i.size := by rw [his]; exact hj
          rw [← hzl, Array.getElem?_toList, Array.getElem?_toList]
          simp [madeCells, Array.getElem?_range, hj', hm]
        have hB0 : Blk (w.alloc (.cells (madeCells zv.cells (n' * i.size)) el)) w.heap.size el (madeCells zv.cells (n' * i.size)).toList := by
          unfold Blk
          rw [Array.toArray_toList]
          exact heap_alloc_new w _
        exact ⟨⟨.inr ⟨w.heap.size, 0, n', _, _, [], by simp, by simp, by unfold maxLen; omega, hB0, by rw [hlen]; omega, hR, rfl⟩, by simp, by simp⟩, rfl⟩
      · simp only [List.mem_singleton] at hx hy
        exact absurd (hx.trans hy.symm) hne
      · simp only [VSim]
        have : (γ.toks (w.alloc (.cells (madeCells zv.cells (n' * i.size)) el)) [pos * 16] (fun _ => Value.slice (some ⟨w.heap.size, 0, none⟩) n' n') (fun _ => [w.heap.size])).tv (pos * 16) = .slice (some ⟨w.heap.size, 0, none⟩) n' n' := by
          show (if pos * 16 ∈ [pos * 16] then _ else _) = _
          rw [if_pos (by simp)]
        rw [this]
        exact ⟨⟨.inr (by simp), _, _, _, rfl⟩, rfl⟩
    · exact hev.elim
  · exact hev.elim
end
end Go.Proofs.Ytffokcfdkkikmaa.Ab
