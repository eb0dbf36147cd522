/-
  The abstract walk, fourth part: each operation that reads, computes, makes memory or calls does in the model what 'Ev' says.
-/
import Derived.Test.YtfbnlkaggggmiaaAbC
namespace Go.Proofs.Ytfbnlkaggggmiaa.Ab
set_option linter.unusedVariables false
set_option linter.unusedSimpArgs false
open Go.RowKit

section
variable {P : Program} {w : World}
theorem ti_sl {t e : TypeId} (h : ti P t = .sl e) : P.underlying t = some (.slice e) := by
  unfold ti at h; split at h <;> simp_all
theorem ti_int {t : TypeId} {k : IntKind} (h : ti P t = .int k) : P.underlying t = some (.int k) := by
  unfold ti at h; split at h <;> simp_all
theorem ti_str {t : TypeId} (h : ti P t = .str) : P.underlying t = some .string := by
  unfold ti at h; split at h <;> simp_all
theorem ti_st {t : TypeId} {fs : List (Nat × TypeId)} (h : ti P t = .st fs) : ∃ gs, P.underlying t = some (.struct gs) ∧ fs = gs.toList.map fun f => (f.offset, f.type) := by
  unfold ti at h; split at h <;> simp_all
theorem ti_isAgg {t : TypeId} (h : (ti P t).isAgg = true) : (isAgg t).run P w = .ok true w := by
  unfold ti at h
  split at h <;> simp [TI.isAgg] at h
  · rename_i fs hu; simp [isAgg, run_underlying hu]
  · rename_i n e hu; simp [isAgg, run_underlying hu]
theorem ti_sc {t : TypeId} (h : (ti P t).sc = true) : (isAgg t).run P w = .ok false w := by
  unfold ti at h
  split at h <;> simp [TI.sc] at h <;> (rename_i hu; simp [isAgg, run_underlying hu])
theorem tsz_info {t : TypeId} (h : 0 < tsz P t) : ∃ i, P.info? t = some i ∧ i.size = tsz P t := by
  unfold tsz at h ⊢
  cases hi : P.info? t with
  | none => simp [hi] at h
  | some i => exact ⟨i, rfl, by simp⟩
theorem run_size {t : TypeId} (h : 0 < tsz P t) : (sizeOf t).run P w = .ok (tsz P t) w := by
  obtain ⟨i, h1, h2⟩ := tsz_info h
  simp [sizeOf, typeInfo, h1, h2]
theorem isAgg_size {t : TypeId} (h : (ti P t).isAgg = true) : (sizeOf t).run P w = .ok (tsz P t) w := by
  have hi : ∃ i, P.info? t = some i := by
    unfold ti at h
    split at h <;> simp [TI.isAgg] at h <;>
    · rename_i hu
      unfold Program.underlying at hu
      cases hi : P.info? t with
      | none => simp [hi] at hu
      | some i => exact ⟨i, rfl⟩
  obtain ⟨i, hi⟩ := hi
  simp [sizeOf, typeInfo, hi, tsz]
theorem wp_val {o : Oper} {a : Act} {next : Act → World → Prop} {Q : Exit → Act → World → Prop} {v : Value} {w' : World} (h : (execOp a.eval o).run P w = .ok (.value v) w') (k : next (a.put o.dst v) w') : o.wp P a w next Q := by
  unfold Oper.wp; rw [h]; exact k
theorem run_loadAgg {t : TypeId} (h : (ti P t).isAgg = true) {b off : Nat} {us : List Value} (hl : us.length = tsz P t) (hc : ∀ j u, us[j]? = some u → w.cell? ⟨b, off + j, none⟩ = some u) :
    (Instr.loadAt t (.pointer (some ⟨b, off, none⟩))).run P w = .ok (.agg us.toArray) w := by
  have h1 := run_loadCells_list (P := P) (w := w) ⟨b, off, none⟩ us (fun j u hu => by rw [Addr.add_lit]; exact hc j u hu)
  rw [hl] at h1
  simp [Instr.loadAt, Instr.sureAddr, loadVar, ti_isAgg h, isAgg_size h, h1]
theorem run_loadSc {t : TypeId} (h : (ti P t).sc = true) {b off : Nat} {u : Value} (hc : w.cell? ⟨b, off, none⟩ = some u) :
    (Instr.loadAt t (.pointer (some ⟨b, off, none⟩))).run P w = .ok u w := by
  simp [Instr.loadAt, Instr.sureAddr, loadVar, ti_sc h, hc]
end

/-! ### Reading -/
theorem VSim.of_rep {w0 : World} {γ : Gh} {d : D} {v : Value} (h : Rep w0 d v) : VSim w0 γ (ofD d) v := by
  cases d with
  | int k n => simpa [ofD, VSim, Rep] using h
  | bool b => simpa [ofD, VSim, Rep] using h
  | str s => simpa [ofD, VSim, Rep] using h
  | sl rows => simp only [ofD, VSim]; exact h
/-- Cells that read as data, as values. -/
theorem repc_vals {w0 : World} {γ : Gh} {b : Nat} : ∀ {o : Nat} {ds : List D}, RepC w0 b o ds → ∃ us : List Value, VSims w0 γ (ds.map ofD) us ∧ ∀ j u, us[j]? = some u → w0.cell? ⟨b, o + j, none⟩ = some u
  | _, [], _ => ⟨[], by simp [VSims], fun j u h => by simp at h⟩
  | o, d :: ds, h => by
    simp only [RepC] at h
    obtain ⟨⟨u, hu, hr⟩, h2⟩ := h
    obtain ⟨us, h3, h4⟩ := repc_vals (γ := γ) h2
    refine ⟨u :: us, by simp only [List.map_cons, VSims]; exact ⟨u, us, rfl, VSim.of_rep hr, h3⟩, fun j x hx => ?_⟩
    cases j with
    | zero => simp at hx; subst hx; exact hu
    | succ j =>
      have := h4 j x (by simpa using hx)
      simpa [Nat.add_assoc, Nat.add_comm 1 j] using this
theorem VSim.of_own {w w0 : World} {γ : Gh} {d : D} {v : Value} {fp : List Nat} (h : Own w d v fp) : VSim w0 γ (ofS d) v := by
  cases d with
  | int k n => simp only [Own] at h; simp only [ofS, VSim]; exact ⟨h.1, h.2.1⟩
  | bool b => simp only [Own] at h; simp only [ofS, VSim]; exact h.1
  | str s => simp only [Own] at h; simp only [ofS, VSim]; exact ⟨h.1, h.2.1⟩
  | sl rows => trivial
theorem VSims.take_drop {w0 : World} {γ : Gh} {vs : List AV} {us : List Value} (h : VSims w0 γ vs us) (off n : Nat) : VSims w0 γ (vcells vs off n) ((us.drop off).take n) := by
  have hl := h.length
  refine VSims.mk (by simp [vcells, hl]) fun i a u h1 h2 => ?_
  unfold vcells at h1
  by_cases hi : i < n
  · rw [List.getElem?_take_of_lt hi, List.getElem?_drop] at h1 h2
    obtain ⟨u', h3, h4⟩ := h.get h1
    rw [h3] at h2; cases h2; exact h4
  · rw [List.getElem?_eq_none (by simp; omega)] at h1
    cases h1

theorem load_sound {cx : Cx} {γ : Gh} {T : Nat → Option Tok} {B : Nat → Option (List AV)} {w : World} {t : TypeId} {av v : AV} {a : Value} (hs : OSim cx γ T B w) (ha : VSim cx.w0 γ av a) (h : LoadA cx.P T B t av v) :
    ∃ u, (Instr.loadAt t a).run cx.P w = .ok u w ∧ VSim cx.w0 γ v u := by
  unfold LoadA at h
  split at h
  · rename_i b off
    obtain ⟨vs, hB, h⟩ := h
    simp only [VSim] at ha
    obtain ⟨hbl, rfl⟩ := ha
    obtain ⟨us, h1, h2⟩ := hs.box b vs hbl hB
    have hl := h1.length
    split at h
    · rename_i hagg
      obtain ⟨hle, rfl⟩ := h
      refine ⟨_, run_loadAgg hagg (us := (us.drop off).take (tsz cx.P t)) (by simp; omega) fun j u hu => ?_, ?_⟩
      · rw [List.getElem?_take] at hu
        split at hu
        · rw [List.getElem?_drop] at hu
          rw [Nat.add_assoc]; exact h2.cell hu
        · cases hu
      · simp only [VSim]
        exact ⟨_, rfl, h1.take_drop off _⟩
    · obtain ⟨hsc, hv⟩ := h
      obtain ⟨u, h3, h4⟩ := h1.get hv
      exact ⟨u, run_loadSc hsc (h2.cell h3), h4⟩
  · rename_i vs off
    simp only [VSim] at ha
    obtain ⟨b, o, us, rfl, h1, hc⟩ := ha
    have hk := hs.frm.keeps
    have hl := h1.length
    split at h
    · rename_i hagg
      obtain ⟨hle, rfl⟩ := h
      refine ⟨_, run_loadAgg hagg (us := (us.drop off).take (tsz cx.P t)) (by simp; omega) fun j u hu => ?_, ?_⟩
      · rw [List.getElem?_take] at hu
        split at hu
        · rw [List.getElem?_drop] at hu
          rw [Nat.add_assoc]; exact hk _ _ (hc _ _ hu)
        · cases hu
      · simp only [VSim]
        exact ⟨_, rfl, h1.take_drop off _⟩
    · obtain ⟨hsc, hv⟩ := h
      obtain ⟨u, h3, h4⟩ := h1.get hv
      exact ⟨u, run_loadSc hsc (hk _ _ (hc _ _ h3)), h4⟩
  · rename_i t' sz i off
    obtain ⟨tk, row, hT, hrow, hlen, h⟩ := h
    simp only [VSim] at ha
    obtain ⟨htl, g, o, n, c, htv, rfl⟩ := ha
    have hown := (hs.tok t' tk htl hT).own
    simp only [Own] at hown
    have hi := lt_of_get hrow
    rcases hown with ⟨he, -, -⟩ | ⟨sz', g', o', c', e', cs, fps, hv, h1, h2, hb, h3, hr, -⟩
    · rw [he] at hi; simp at hi
    · rw [htv] at hv
      simp only [Value.slice.injEq, Option.some.injEq, Addr.mk.injEq, and_true] at hv
      obtain ⟨⟨rfl, rfl⟩, -, -⟩ := hv
      obtain ⟨f1, f2, f3, -, hl, hc, -⟩ := hr.split i hi
      rw [List.getElem?_eq_getElem hi] at hrow
      simp only [Option.some.injEq] at hrow
      rw [hrow] at hl hc
      have hsz : sz' = sz := by omega
      subst hsz
      have hcell : ∀ j (hj : j < row.length), ∃ u fp, cs[o + i * sz' + j]? = some u ∧ Own w row[j] u fp := fun j hj => by
        obtain ⟨u, _, fp, _, _, h4, h5, -⟩ := hc.split j hj
        exact ⟨u, fp, h4, h5⟩
      split at h
      · rename_i hagg
        obtain ⟨hle, rfl⟩ := h
        refine ⟨.agg ((cs.drop (o + i * sz' + off)).take (tsz cx.P t)).toArray, run_loadAgg hagg (by
          rw [List.length_take, List.length_drop]
          have : o + i * sz' + sz' ≤ cs.length := by
            have : (i + 1) * sz' ≤ tk.rows.length * sz' := Nat.mul_le_mul_right _ hi
            have h6 : tk.rows.length * sz' ≤ c' * sz' := Nat.mul_le_mul_right _ h1
            rw [Nat.add_mul] at this
            omega
          omega) fun j u hu => ?_, ?_⟩
        · rw [List.getElem?_take] at hu
          split at hu
          · rw [List.getElem?_drop] at hu
            rw [hb.cell]; exact hu
          · cases hu
        · simp only [VSim]
          have hcl : o + i * sz' + sz' ≤ cs.length := by
            have : (i + 1) * sz' ≤ tk.rows.length * sz' := Nat.mul_le_mul_right _ hi
            have h6 : tk.rows.length * sz' ≤ c' * sz' := Nat.mul_le_mul_right _ h1
            rw [Nat.add_mul] at this
            omega
          refine ⟨_, rfl, VSims.mk (by simp [scells]; omega) fun k a u h1 h2 => ?_⟩
          unfold scells at h1
          rw [List.getElem?_map, List.getElem?_take] at h1
          rw [List.getElem?_take] at h2
          split at h1
          · rename_i hk
            rw [if_pos hk, List.getElem?_drop] at h2
            rw [List.getElem?_drop] at h1
            cases hd : row[off + k]? with
            | none => simp [hd] at h1
            | some d =>
              simp [hd] at h1
              subst h1
              have hlt := lt_of_get hd
              obtain ⟨u', fp, h4, h5⟩ := hcell (off + k) hlt
              rw [List.getElem?_eq_getElem hlt] at hd
              simp only [Option.some.injEq] at hd
              rw [show o + i * sz' + (off + k) = o + i * sz' + off + k from by omega] at h4
              rw [h4] at h2; cases h2
              rw [hd] at h5
              exact VSim.of_own h5
          · simp at h1
      · obtain ⟨hsc, d, hd, rfl⟩ := h
        have hlt := lt_of_get hd
        obtain ⟨u, fp, h4, h5⟩ := hcell off hlt
        rw [List.getElem?_eq_getElem hlt] at hd
        simp only [Option.some.injEq] at hd
        rw [hd] at h5
        exact ⟨u, run_loadSc hsc (by rw [hb.cell]; exact h4), VSim.of_own h5⟩
  · exact h.elim
end Go.Proofs.Ytfbnlkaggggmiaa.Ab
