/-
  The abstract walk, sixth part: one operation.
-/
import Derived.Test.YtffokcfdkkikmaaAbE
import Derived.DeepKeys
namespace Go.Proofs.Ytffokcfdkkikmaa.Ab
set_option linter.unusedVariables false
set_option linter.unusedSimpArgs false
open Go.RowKit

theorem vs_int {w0 : World} {γ : Gh} {k : IntKind} {n : Int} (h : (Lit.int k n).wf = true) : VSim w0 γ (.int k n) (.int k n) := by simp only [VSim, true_and]; exact h
theorem vs_bool {w0 : World} {γ : Gh} {b : Bool} : VSim w0 γ (.bool b) (.bool b) := by simp only [VSim]
theorem vs_str {w0 : World} {γ : Gh} {s : ByteArray} (h : s.size ≤ maxLen) : VSim w0 γ (.str s) (.string s) := by simp only [VSim, true_and]; exact h
section
variable {P : Program} {w : World} {t : TypeId}
theorem run_eq_bool (hu : P.underlying t = some .bool) (a b : Bool) : (Op.equal t (.bool a) (.bool b)).run P w = .ok (a == b) w := by
  unfold Op.equal Op.maxDepth
  show (Op.equalIn (9999 + 1) t _ _).run P w = _
  rw [Op.equalIn]
  simp [run_underlying hu]
theorem run_eq_nil {e : TypeId} (hu : P.underlying t = some (.pointer e)) (b : Option Addr) : (Op.equal t (.pointer none) (.pointer b)).run P w = .ok b.isNone w := by
  unfold Op.equal Op.maxDepth
  show (Op.equalIn (9999 + 1) t _ _).run P w = _
  rw [Op.equalIn]
  simp [run_underlying hu]
theorem run_eq_nil' {e : TypeId} (hu : P.underlying t = some (.pointer e)) (b : Addr) : (Op.equal t (.pointer (some b)) (.pointer none)).run P w = .ok false w := by
  unfold Op.equal Op.maxDepth
  show (Op.equalIn (9999 + 1) t _ _).run P w = _
  rw [Op.equalIn]
  simp [run_underlying hu]
end

/-! Structs of numbers, compared -/
def intsOf : List IntKind → List AV → Option (List Int)
  | [], [] => some []
  | k :: ks, .int k1 a :: xs => if k1 = k then (intsOf ks xs).map (a :: ·) else none
  | _, _ => none
theorem cmp_ints : ∀ (ks : List IntKind) (xs ys : List AV) (b : Bool), cmpInts ks xs ys = some b → ∃ as bs, intsOf ks xs = some as ∧ intsOf ks ys = some bs ∧ (b = true ↔ as = bs)
  | [], xs, ys, b, h => by
    cases xs with
    | cons x xs => simp [cmpInts] at h
    | nil =>
      cases ys with
      | cons y ys => simp [cmpInts] at h
      | nil => simp [cmpInts] at h; exact ⟨[], [], rfl, rfl, by simp [← h]⟩
  | k :: ks, xs, ys, b, h => by
    cases xs with
    | nil => simp [cmpInts] at h
    | cons x xs =>
      cases ys with
      | nil => cases x <;> simp [cmpInts] at h
      | cons y ys =>
        cases x <;> cases y <;> simp only [cmpInts] at h <;> try (cases h; done)
        rename_i k1 a k2 c
        split at h
        · rename_i hk
          obtain ⟨rfl, rfl⟩ := hk
          simp only [Option.map_eq_some_iff] at h
          obtain ⟨b', h1, rfl⟩ := h
          obtain ⟨as, bs, h2, h3, h4⟩ := cmp_ints ks xs ys b' h1
          exact ⟨a :: as, c :: bs, by rw [intsOf, if_pos rfl, h2]; rfl, by rw [intsOf, if_pos rfl, h3]; rfl, by simp [h4]⟩
        · cases h
def litsOf : List IntKind → List Int → List Lit
  | k :: ks, a :: as => .int k a :: litsOf ks as
  | _, _ => []
theorem litsOf_inj : ∀ (ks : List IntKind) (as bs : List Int), as.length = ks.length → bs.length = ks.length → (litsOf ks as = litsOf ks bs ↔ as = bs)
  | [], [], [], _, _ => by simp
  | k :: ks, a :: as, b :: bs, h1, h2 => by
    simp only [litsOf, List.cons.injEq, Lit.int.injEq, true_and]
    rw [litsOf_inj ks as bs (by simpa using h1) (by simpa using h2)]
  | [], _ :: _, _, h, _ => by simp at h
  | [], [], _ :: _, _, h => by simp at h
  | _ :: _, [], _, h, _ => by simp at h
  | _ :: _, _ :: _, [], _, h => by simp at h
theorem intsOf_len : ∀ (ks : List IntKind) (xs : List AV) (as : List Int), intsOf ks xs = some as → as.length = ks.length ∧ xs.length = ks.length
  | [], [], as, h => by simp [intsOf] at h; subst h; exact ⟨rfl, rfl⟩
  | k :: ks, x :: xs, as, h => by
    cases x <;> simp only [intsOf] at h <;> try (cases h; done)
    split at h
    · simp only [Option.map_eq_some_iff] at h
      obtain ⟨as', h1, rfl⟩ := h
      have := intsOf_len ks xs as' h1
      simp [this]
    · cases h
  | [], _ :: _, _, h => by simp [intsOf] at h
  | _ :: _, [], _, h => by simp [intsOf] at h
theorem field_lits {P : Program} {w0 : World} {γ : Gh} {D : Nat} (cs : List Value) : ∀ (fs : List Field) (i : Nat) (ks : List IntKind) (xs : List AV) (us : List Value) (as : List Int), fieldKs P i fs = some ks → intsOf ks xs = some as → VSims w0 γ xs us → cs.drop i = us →
    ∃ ls, fs.mapM (fun f => P.keyLits (D + 1) f.type ((cs.drop f.offset).take (P.cellsOf f.type))) = some ls ∧ ls.flatten = litsOf ks as
  | [], i, ks, xs, us, as, h, h1, h2, h3 => by
    simp only [fieldKs, Option.some.injEq] at h
    subst h
    exact ⟨[], rfl, by simp [litsOf]⟩
  | f :: fs, i, ks, xs, us, as, h, h1, h2, h3 => by
    rw [fieldKs] at h
    split at h
    · rename_i hf
      split at h
      · rename_i k hk
        simp only [Option.map_eq_some_iff] at h
        obtain ⟨ks', hks, rfl⟩ := h
        cases xs with
        | nil => simp [intsOf] at h1
        | cons x xs =>
          cases x <;> simp only [intsOf] at h1 <;> try (cases h1; done)
          rename_i k1 a
          split at h1
          · rename_i hkk
            subst hkk
            simp only [Option.map_eq_some_iff] at h1
            obtain ⟨as', has, rfl⟩ := h1
            simp only [VSims, VSim] at h2
            obtain ⟨u, us', hu, ⟨rfl, hwf⟩, hus⟩ := h2
            subst hu
            have hd : cs.drop (i + 1) = us' := by rw [← List.drop_drop, h3]; rfl
            obtain ⟨ls, hl1, hl2⟩ := field_lits (D := D) cs fs (i + 1) ks' xs us' as' hks has hus hd
            refine ⟨[.int k1 a] :: ls, ?_, by simp [litsOf, hl2]⟩
            rw [List.mapM_cons, hl1, hf.1, hf.2, h3]
            simp [Program.keyLits, hk, hwf]
          · cases h1
      · cases h
    · cases h
theorem vsims_len {w0 : World} {γ : Gh} : ∀ {xs : List AV} {us : List Value}, VSims w0 γ xs us → us.length = xs.length
  | [], us, h => by simp only [VSims] at h; subst h; rfl
  | x :: xs, us, h => by
    simp only [VSims] at h
    obtain ⟨u, us', rfl, -, h⟩ := h
    simp [vsims_len h]
theorem fieldKs_len {P : Program} : ∀ (fs : List Field) (i : Nat) (ks : List IntKind), fieldKs P i fs = some ks → ks.length = fs.length
  | [], _, _, h => by simp only [fieldKs, Option.some.injEq] at h; subst h; rfl
  | f :: fs, i, ks, h => by
    rw [fieldKs] at h
    split at h
    · split at h
      · simp only [Option.map_eq_some_iff] at h
        obtain ⟨ks', hks, rfl⟩ := h
        simp [fieldKs_len fs (i + 1) ks' hks]
      · cases h
    · cases h
theorem run_eq_struct {P : Program} {w w0 : World} {γ : Gh} {t : TypeId} {ks : List IntKind} {xs ys : List AV} {us vs : List Value} {b : Bool} (ht : structKs P t = some ks) (hb : cmpInts ks xs ys = some b) (hx : VSims w0 γ xs us) (hy : VSims w0 γ ys vs) :
    (Op.equal t (.agg us.toArray) (.agg vs.toArray)).run P w = .ok b w ∧ P.eqGuardType P.depth t = false := by
  unfold structKs at ht
  split at ht
  · rename_i fs hu
    split at ht
    · rename_i hc
      obtain ⟨hc1, hc2, hc3, hc4⟩ := hc
      obtain ⟨as, bs, ha, hb', hiff⟩ := cmp_ints _ _ _ _ hb
      obtain ⟨la, ga, fa⟩ := field_lits (D := 0) us fs.toList 0 ks xs us as ht ha hx (by simp)
      obtain ⟨lb, gb, fb⟩ := field_lits (D := 0) vs fs.toList 0 ks ys vs bs ht hb' hy (by simp)
      have na := intsOf_len _ _ _ ha
      have nb := intsOf_len _ _ _ hb'
      have nf := fieldKs_len _ _ _ ht
      have lu : us.length = P.cellsOf t := by rw [vsims_len hx, na.2, nf, hc1]; simp
      have lv : vs.length = P.cellsOf t := by rw [vsims_len hy, nb.2, nf, hc1]; simp
      have ka : P.keyLits 2 t us = some (litsOf ks as) := by
        unfold Program.keyLits
        simp only [hu]
        rw [if_pos ⟨lu, hc4⟩, ga, Option.map_some, fa]
      have kb : P.keyLits 2 t vs = some (litsOf ks bs) := by
        unfold Program.keyLits
        simp only [hu]
        rw [if_pos ⟨lv, hc4⟩, gb, Option.map_some, fb]
      obtain ⟨r, hr, hri⟩ := run_equalIn_deep 9997 3 t hc2 w 2 2 (.agg us.toArray) (.agg vs.toArray) _ _ (by simp [Value.formed, hu, lu]) (by simp [Value.formed, hu, lv]) (by simpa [Value.cells] using ka) (by simpa [Value.cells] using kb)
      refine ⟨?_, hc3⟩
      have : r = b := by
        rw [Bool.eq_iff_iff, hri, hiff, litsOf_inj _ _ _ na.1 nb.1]
      rw [← this]
      unfold Op.equal Op.maxDepth
      exact hr
    · cases ht
  · cases ht

/-- What one operation owes to what follows. -/
def EvK (cx : Cx) (γ : Gh) (T : Nat → Option Tok) (B : Nat → Option (List AV)) (o : Oper) (a : Act) (next : Act → World → Prop) (r : Res) : Prop :=
  ∀ v w' γ', Gh.Ext γ γ' → (∀ t, γ'.tl t → γ.tl t ∨ ∃ x ∈ r.t, x.1 = t) → (∀ b, γ'.bl b → γ.bl b ∨ ∃ x ∈ r.b, x.1 = b) → OSim cx γ' T B w' → VSim cx.w0 γ' r.v v → next (a.put o.dst v) w'

section
variable {cx : Cx} {γ : Gh} {T : Nat → Option Tok} {B : Nat → Option (List AV)} {w : World} {o : Oper} {a : Act} {next : Act → World → Prop} {Q : Exit → Act → World → Prop}

/-- Nothing new. -/
theorem ev_plain (hs : OSim cx γ T B w) {av : AV} {v : Value} (hr : (execOp a.eval o).run cx.P w = .ok (.value v) w) (hv : VSim cx.w0 γ av v) (hk : EvK cx γ T B o a next ⟨av, [], []⟩) : o.wp cx.P a w next Q :=
  wp_val hr (hk v w γ (Gh.Ext.refl γ) (fun t h => .inl h) (fun b h => .inl h) hs hv)

theorem bin_sound {op : BinOp} {t : TypeId} {x y v : AV} {u u' : Value} {ox oy : Operand} (hx : VSim cx.w0 γ x u) (hy : VSim cx.w0 γ y u') (h : Bin cx.P op t x y v) :
    ∃ r, (do eqGuard op t ox oy u u'; binOp op t u u' : Sem Value).run cx.P w = .ok r w ∧ VSim cx.w0 γ v r := by
  unfold Bin at h
  split at h
  · simp only [VSim] at hx hy
    obtain ⟨us, rfl, hx⟩ := hx
    obtain ⟨vs, rfl, hy⟩ := hy
    obtain ⟨ks, b, h1, h2, h⟩ := h
    obtain ⟨h3, h4⟩ := run_eq_struct (w := w) h1 h2 hx hy
    cases op <;> simp only at h
    case eql => subst h; exact ⟨.bool b, by simp [eqGuard, binOp, h3, h4], vs_bool⟩
    case neq => subst h; exact ⟨.bool !b, by simp [eqGuard, binOp, h3, h4], vs_bool⟩
    all_goals exact h.elim
  · rename_i k a k' b
    simp only [VSim] at hx hy
    obtain ⟨rfl, hwx⟩ := hx
    obtain ⟨rfl, hwy⟩ := hy
    cases op <;> simp only [arith, Option.some.injEq] at h
    case shl => obtain ⟨hb, rfl⟩ := h; exact ⟨_, by simp only [eqGuard_shl, binOp_shl, shift_shl_any _ _ _ _ hb]; rfl, vs_int (wf_wrap _ _)⟩
    case shr => obtain ⟨hb, rfl⟩ := h; exact ⟨_, by simp only [eqGuard_shr, binOp_shr, shift_shr_any _ _ _ _ hb]; rfl, vs_int (wf_shr hwx)⟩
    all_goals obtain ⟨rfl, h⟩ := h
    case and => subst h; exact ⟨_, by simp only [eqGuard_and, binOp_and, intBits_and]; rfl, vs_int (wf_wrap _ _)⟩
    case or => subst h; exact ⟨_, by simp only [eqGuard_or, binOp_or, intBits_or]; rfl, vs_int (wf_wrap _ _)⟩
    case xor => subst h; exact ⟨_, by simp only [eqGuard_xor, binOp_xor, intBits_xor]; rfl, vs_int (wf_wrap _ _)⟩
    case andNot => subst h; exact ⟨_, by simp only [eqGuard_andNot, binOp_andNot, intBits_andNot]; rfl, vs_int (wf_wrap _ _)⟩
    case quo => obtain ⟨hb, rfl⟩ := h; exact ⟨_, by simp [eqGuard, binOp, Op.intDiv, hb], vs_int (wf_wrap _ _)⟩
    case rem => obtain ⟨hb, rfl⟩ := h; exact ⟨_, by simp [eqGuard, binOp, Op.intDiv, hb], vs_int (wf_tmod hwx)⟩
    case add => subst h; exact ⟨_, by simp [eqGuard, binOp, Op.intArith], vs_int (wf_wrap _ _)⟩
    case sub => subst h; exact ⟨_, by simp [eqGuard, binOp, Op.intArith], vs_int (wf_wrap _ _)⟩
    case mul => subst h; exact ⟨_, by simp [eqGuard, binOp, Op.intArith], vs_int (wf_wrap _ _)⟩
    case eql => subst h; exact ⟨.bool (decide (a = b)), by simp [eqGuard, binOp, Op.intCmp, Bool.beq_eq_decide_eq], vs_bool⟩
    case neq => subst h; exact ⟨.bool (!decide (a = b)), by simp [eqGuard, binOp, Op.intCmp, bne, Bool.beq_eq_decide_eq], vs_bool⟩
    case lss => subst h; exact ⟨_, by simp [eqGuard, binOp, Op.intCmp], vs_bool⟩
    case leq => subst h; exact ⟨_, by simp [eqGuard, binOp, Op.intCmp], vs_bool⟩
    case gtr => subst h; exact ⟨_, by simp [eqGuard, binOp, Op.intCmp], vs_bool⟩
    case geq => subst h; exact ⟨_, by simp [eqGuard, binOp, Op.intCmp], vs_bool⟩
    all_goals cases h
  · rename_i a b
    simp only [VSim] at hx hy
    subst hx hy
    split at h
    · rename_i hu
      subst h
      exact ⟨.bool (a == b), by
        have hu' : cx.P.underlying t = some .bool := by unfold ti at hu; split at hu <;> simp_all
        simp [eqGuard, binOp, run_eq_bool hu'], vs_bool⟩
    · rename_i hu
      subst h
      exact ⟨.bool (!(a == b)), by
        have hu' : cx.P.underlying t = some .bool := by unfold ti at hu; split at hu <;> simp_all
        simp [eqGuard, binOp, run_eq_bool hu'], vs_bool⟩
    · exact h.elim
  · rename_i a b
    simp only [VSim] at hx hy
    obtain ⟨rfl, ha⟩ := hx
    obtain ⟨rfl, hb⟩ := hy
    cases op <;> simp only at h
    case eql => subst h; exact ⟨_, by simp [eqGuard, binOp, Op.stringOp], vs_bool⟩
    case neq => subst h; exact ⟨_, by simp [eqGuard, binOp, Op.stringOp], vs_bool⟩
    case add =>
      obtain ⟨hl, rfl⟩ := h
      refine ⟨.string (a ++ b), ?_, vs_str (by rw [ByteArray.size_append]; exact hl)⟩
      unfold maxLen at hl
      have : ¬ (((a.size + b.size : Nat) : Int) > IntKind.i64.max) := by simp only [IntKind.max, IntKind.signed, IntKind.bits]; omega
      simp only [eqGuard, binOp, Op.stringOp, if_neg this]
      rfl
    all_goals exact h.elim
  · simp only [VSim] at hx hy
    subst hx hy
    split at h
    · rename_i e hu
      subst h
      exact ⟨.bool true, by
        have hu' : cx.P.underlying t = some (.pointer e) := by unfold ti at hu; split at hu <;> simp_all
        simp [eqGuard, binOp, run_eq_nil hu', run_eq_nil' hu'], vs_bool⟩
    · rename_i e hu
      subst h
      exact ⟨.bool false, by
        have hu' : cx.P.underlying t = some (.pointer e) := by unfold ti at hu; split at hu <;> simp_all
        simp [eqGuard, binOp, run_eq_nil hu', run_eq_nil' hu'], vs_bool⟩
    · exact h.elim
  all_goals first
    | exact h.elim
    | (simp only [VSim] at hx hy
       obtain ⟨p, hp⟩ : ∃ p, (u = .pointer (some p) ∧ u' = .pointer none) ∨ (u = .pointer none ∧ u' = .pointer (some p)) := by
         first
           | exact ⟨_, .inl ⟨hx.2, hy⟩⟩
           | exact ⟨_, .inr ⟨hx, hy.2⟩⟩
           | (obtain ⟨b, o, us, hx, -⟩ := hx; exact ⟨_, .inl ⟨hx, hy⟩⟩)
           | (obtain ⟨b, o, us, hy, -⟩ := hy; exact ⟨_, .inr ⟨hx, hy⟩⟩)
       split at h
       · rename_i e hu
         subst h
         have hu' : cx.P.underlying t = some (.pointer e) := by unfold ti at hu; split at hu <;> simp_all
         refine ⟨.bool false, ?_, vs_bool⟩
         rcases hp with ⟨rfl, rfl⟩ | ⟨rfl, rfl⟩ <;> simp [eqGuard, binOp, run_eq_nil hu', run_eq_nil' hu']
       · rename_i e hu
         subst h
         have hu' : cx.P.underlying t = some (.pointer e) := by unfold ti at hu; split at hu <;> simp_all
         refine ⟨.bool true, ?_, vs_bool⟩
         rcases hp with ⟨rfl, rfl⟩ | ⟨rfl, rfl⟩ <;> simp [eqGuard, binOp, run_eq_nil hu', run_eq_nil' hu']
       · exact h.elim)

theorem uno_sound {op : UnOp} {x v : AV} {u : Value} (hx : VSim cx.w0 γ x u) (h : Uno op x v) : ∃ r, (Op.unary op u).run cx.P w = .ok r w ∧ VSim cx.w0 γ v r := by
  unfold Uno at h
  split at h
  · simp only [VSim] at hx; subst hx h; exact ⟨_, by simp [Op.unary], vs_bool⟩
  · simp only [VSim] at hx; obtain ⟨rfl, hw⟩ := hx; subst h; exact ⟨_, by simp only [Op.unary, Op.intArith, Sem.run_pure], vs_int (wf_wrap _ _)⟩
  · simp only [VSim] at hx; obtain ⟨rfl, hw⟩ := hx; subst h; exact ⟨_, by simp only [Op.unary, intBits_xor, Sem.run_pure], vs_int (wf_wrap _ _)⟩
  · exact h.elim

theorem idx_sound (hs : OSim cx γ T B w) {t : TypeId} {x i v : AV} {u u' : Value} (hx : VSim cx.w0 γ x u) (hi : VSim cx.w0 γ i u') (h : IdxA cx.P T t x i v) :
    ∃ r, (Instr.indexAt t u u').run cx.P w = .ok r w ∧ VSim cx.w0 γ v r := by
  unfold IdxA at h
  split at h
  · rename_i e rows k n hu
    obtain ⟨hsz, row, ⟨h0, hrow, hl⟩, rfl⟩ := h
    simp only [VSim] at hx hi
    obtain ⟨rfl, -⟩ := hi
    have hlt := lt_of_get hrow
    simp only [Rep] at hx
    obtain ⟨ad, c, rfl, -, -, h3⟩ := hx
    rcases h3 with h3 | ⟨sz, b, off, rfl, hR⟩
    · rw [h3] at hlt; simp at hlt
    · have hn : n < rows.length := by omega
      have hat := hR.at _ hlt
      rw [List.getElem?_eq_getElem hlt] at hrow
      simp only [Option.some.injEq] at hrow
      rw [hrow] at hat
      have hsz' : sz = tsz cx.P e := by omega
      refine ⟨.pointer (some ⟨b, off + n.toNat * tsz cx.P e, none⟩), ?_, ?_⟩
      · simp [Instr.indexAt, run_underlying (ti_sl hu), asIntOf, h0, hn, run_size hsz, Addr.add_lit]
      · obtain ⟨us, k1, k2⟩ := repc_vals (γ := γ) hat.2
        simp only [VSim]
        exact ⟨b, _, us, rfl, k1, by rw [← hsz']; exact k2⟩
  · rename_i e t' k n hu
    obtain ⟨hsz, tk, row, hT, ⟨h0, hrow, hl⟩, rfl⟩ := h
    simp only [VSim] at hx hi
    obtain ⟨rfl, -⟩ := hi
    obtain ⟨⟨htl, -⟩, rfl⟩ := hx
    have hlt := lt_of_get hrow
    have hown := (hs.tok t' tk htl hT).own
    simp only [Own] at hown
    rcases hown with ⟨he, -, -⟩ | ⟨sz', g, o', c', e', cs, fps, hv, h1, h2, hb, h3, hr, -⟩
    · rw [he] at hlt; simp at hlt
    · have hn : n < tk.rows.length := by omega
      refine ⟨.pointer (some ⟨g, o' + n.toNat * tsz cx.P e, none⟩), ?_, ?_⟩
      · rw [hv]
        simp [Instr.indexAt, run_underlying (ti_sl hu), asIntOf, h0, hn, run_size hsz, Addr.add_lit]
      · simp only [VSim]
        exact ⟨htl, g, o', _, _, hv, rfl⟩
  · rename_i e t' g p k n hu
    obtain ⟨hsz, rows, row, hsub, ⟨h0, hrow, hl⟩, rfl⟩ := h
    simp only [VSim] at hx hi
    obtain ⟨rfl, -⟩ := hi
    obtain ⟨⟨htl, hgl⟩, -, rfl⟩ := hx
    have hlt := lt_of_get hrow
    obtain ⟨tk, f1, f2, f3, -, -, -, -, -, hown, -⟩ := sub_own hs.vw htl hsub
    simp only [Own] at hown
    rcases hown with ⟨he, -, -⟩ | ⟨sz', b, o', c', e', cs, fps, hv, h1, h2, hb, h3, hr, -⟩
    · rw [he] at hlt; simp at hlt
    · have hn : n < rows.length := by omega
      refine ⟨.pointer (some ⟨b, o' + n.toNat * tsz cx.P e, none⟩), ?_, ?_⟩
      · rw [hv]
        simp [Instr.indexAt, run_underlying (ti_sl hu), asIntOf, h0, hn, run_size hsz, Addr.add_lit]
      · simp only [VSim]
        exact ⟨⟨htl, hgl⟩, b, o', _, _, hv, rfl⟩
  · exact h.elim

theorem len_wf (n : Nat) (hn : n ≤ maxLen) : (Lit.int .i64 (n : Int)).wf = true := by
  unfold maxLen at hn
  simp [Lit.wf, IntKind.min, IntKind.max, IntKind.signed, IntKind.bits]; omega
theorem len_sound (hs : OSim cx γ T B w) {t ty : TypeId} {x v : AV} {u : Value} (hx : VSim cx.w0 γ x u) (h : LenA cx.P T t x v) :
    ∃ r, (Builtin.len_ #[t] ty #[u]).run cx.P w = .ok r w ∧ VSim cx.w0 γ v r := by
  unfold LenA at h
  split at h
  · rename_i s hu
    subst h
    simp only [VSim] at hx
    obtain ⟨rfl, hs'⟩ := hx
    exact ⟨_, by simp [Builtin.len_, run_underlying (ti_str hu)]; rfl, vs_int (len_wf _ hs')⟩
  · rename_i rows hu
    subst h
    simp only [VSim, Rep] at hx
    obtain ⟨ad, c, rfl, h1, h2, -⟩ := hx
    exact ⟨_, by simp [Builtin.len_, run_underlying (ti_sl hu)]; rfl, vs_int (len_wf _ (Nat.le_trans h1 h2))⟩
  · rename_i hu
    subst h
    simp only [VSim] at hx
    subst hx
    exact ⟨_, by simp [Builtin.len_, run_underlying (ti_sl hu)]; rfl, vs_int (len_wf 0 (Nat.zero_le _))⟩
  · rename_i hu
    subst h
    simp only [VSim] at hx
    obtain ⟨-, hn, rfl⟩ := hx
    exact ⟨_, by simp [Builtin.len_, run_underlying (ti_sl hu)]; rfl, vs_int (len_wf _ hn)⟩
  · rename_i t' hu
    obtain ⟨tk, hT, rfl⟩ := h
    simp only [VSim] at hx
    obtain ⟨⟨htl, -⟩, rfl⟩ := hx
    have hrep := (hs.tok t' tk htl hT).own.rep
    simp only [Rep] at hrep
    obtain ⟨ad, c, hv, h1, h2, -⟩ := hrep
    exact ⟨_, by rw [hv]; simp [Builtin.len_, run_underlying (ti_sl hu)]; rfl, vs_int (len_wf _ (Nat.le_trans h1 h2))⟩
  · rename_i t' g p hu
    obtain ⟨rows, hsub, rfl⟩ := h
    simp only [VSim] at hx
    obtain ⟨⟨htl, -⟩, -, rfl⟩ := hx
    obtain ⟨tk, f1, f2, f3, -, -, -, -, -, hown, -⟩ := sub_own hs.vw htl hsub
    have hrep := hown.rep
    simp only [Rep] at hrep
    obtain ⟨ad, c, hv, h1, h2, -⟩ := hrep
    exact ⟨_, by rw [hv]; simp [Builtin.len_, run_underlying (ti_sl hu)]; rfl, vs_int (len_wf _ (Nat.le_trans h1 h2))⟩
  · exact h.elim
end
end Go.Proofs.Ytffokcfdkkikmaa.Ab
