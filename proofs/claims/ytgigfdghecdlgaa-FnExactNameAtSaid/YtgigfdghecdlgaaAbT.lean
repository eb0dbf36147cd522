/-
  The abstract walk as a set of rules for 'simp only [go_sem]': heads that wait, their congruences, one rule an operation.
-/
import Derived.Test.YtgigfdghecdlgaaAbS
namespace Go.Proofs.Ytgigfdghecdlgaa.Ab
set_option linter.unusedVariables false
open Go.RowKit

/-! ### Saying less of what comes after -/
section
variable {P : Program}
theorem emb_mono {z} : ∀ {vs} {σ} {K K'}, (∀ ds σ, K ds σ → K' ds σ) → EmbK z vs σ K → EmbK z vs σ K'
  | [], σ, K, K', hk, h => by rw [EmbK] at h ⊢; exact hk _ _ h
  | .int k n :: vs, σ, K, K', hk, h => by rw [EmbK] at h ⊢; exact emb_mono (fun ds σ => hk _ σ) h
  | .bool b :: vs, σ, K, K', hk, h => by rw [EmbK] at h ⊢; exact emb_mono (fun ds σ => hk _ σ) h
  | .str b :: vs, σ, K, K', hk, h => by rw [EmbK] at h ⊢; exact emb_mono (fun ds σ => hk _ σ) h
  | .nils :: vs, σ, K, K', hk, h => by rw [EmbK] at h ⊢; exact emb_mono (fun ds σ => hk _ σ) h
  | .nilp :: vs, σ, K, K', hk, h => by rw [EmbK] at h ⊢; exact emb_mono (fun ds σ => hk _ σ) h
  | .ro _ :: vs, σ, K, K', hk, h => by rw [EmbK] at h ⊢; exact ⟨h.1, emb_mono (fun ds σ => hk _ σ) h.2⟩
  | .rop _ _ :: vs, σ, K, K', hk, h => by rw [EmbK] at h ⊢; obtain ⟨h1, d, h2, h3⟩ := h; exact ⟨h1, d, h2, emb_mono (fun ds σ => hk _ σ) h3⟩
  | .bsl _ _ _ :: vs, σ, K, K', hk, h => by
    rw [EmbK] at h ⊢
    split at h
    · rename_i h0
      rw [if_pos h0]
      exact emb_mono (fun ds σ => hk _ σ) h
    · rename_i h0
      rw [if_neg h0]
      obtain ⟨h1, h2, vs', h3, ds, h4, h5, h6⟩ := h
      exact ⟨h1, h2, vs', h3, ds, h4, h5, emb_mono (fun ds σ => hk _ σ) h6⟩
  | .own t :: vs, σ, K, K', hk, h => by rw [EmbK] at h ⊢; obtain ⟨tk, h1, h2, h3⟩ := h; exact ⟨tk, h1, h2, emb_mono (fun ds σ => hk _ σ) h3⟩
  | .sub _ _ _ :: vs, σ, K, K', hk, h => by simp [EmbK] at h
  | .els _ _ _ _ _ _ :: vs, σ, K, K', hk, h => by simp [EmbK] at h
  | .any :: vs, σ, K, K', hk, h => by simp [EmbK] at h
  | .box _ _ :: vs, σ, K, K', hk, h => by simp [EmbK] at h
  | .elt _ _ _ _ :: vs, σ, K, K', hk, h => by simp [EmbK] at h
  | .par _ _ _ _ :: vs, σ, K, K', hk, h => by simp [EmbK] at h
  | .agg _ :: vs, σ, K, K', hk, h => by simp [EmbK] at h
  | .tup _ :: vs, σ, K, K', hk, h => by simp [EmbK] at h
  | .fn _ _ :: vs, σ, K, K', hk, h => by simp [EmbK] at h
  | .mpr _ :: vs, σ, K, K', hk, h => by simp [EmbK] at h
  | .mpc _ _ :: vs, σ, K, K', hk, h => by simp [EmbK] at h
theorem store_mono {t} {a x} {σ} {K K'} (hk : ∀ σ, K σ → K' σ) (h : StoreK P t a x σ K) : StoreK P t a x σ K' := by
  unfold StoreK at h ⊢
  split at h
  · obtain ⟨h1, h2, h3, h4⟩ := h
    refine ⟨h1, h2, h3, ?_⟩
    split at h4
    · obtain ⟨vs, h5, h6, h7, h8⟩ := h4; exact ⟨vs, h5, h6, h7, hk _ h8⟩
    · obtain ⟨tk0, h5, h4⟩ := h4
      exact ⟨tk0, h5, emb_mono (fun ds σ ⟨tk, row, k1, k2, k3, k4, k5⟩ => ⟨tk, row, k1, k2, k3, k4, hk _ k5⟩) h4⟩
    · exact emb_mono (fun ds σ ⟨rows, k1, row, k2, k3, tk, k4, k5⟩ => ⟨rows, k1, row, k2, k3, tk, k4, hk _ k5⟩) h4
    · exact h4
  · exact h
theorem appX_mono {z} {e} {sz} {x} {σ} {K K'} (hk : ∀ r σ, K r σ → K' r σ) (h : AppX z e sz x σ K) : AppX z e sz x σ K' := by
  unfold AppX at h ⊢
  split at h
  · exact hk _ _ h
  · split at h
    · rename_i h0
      rw [if_pos h0]
      exact hk _ _ h
    · rename_i h0
      rw [if_neg h0]
      obtain ⟨h0, h1, h2, vs', h3, ds, h4, h5, h6⟩ := h
      exact ⟨h0, h1, h2, vs', h3, ds, h4, h5, hk _ _ h6⟩
  · obtain ⟨tk, h1, h2, h3⟩ := h; exact ⟨tk, h1, h2, hk _ _ h3⟩
  · exact h
theorem appY_mono {z} {sz} {x} {σ} {K K'} (hk : ∀ r σ, K r σ → K' r σ) (h : AppY z sz x σ K) : AppY z sz x σ K' := by
  unfold AppY at h ⊢
  split at h
  · exact hk _ _ h
  · obtain ⟨vs, h1, h2, h3, h4, h5⟩ := h; exact ⟨vs, h1, h2, h3, h4, emb_mono (fun ds σ => hk _ σ) h5⟩
  · split at h
    · exact ⟨h.1, hk _ _ h.2⟩
    · exact ⟨h.1, hk _ _ h.2⟩
  · obtain ⟨tk, h1, h2, h3⟩ := h; exact ⟨tk, h1, h2, hk _ _ h3⟩
  · exact h
theorem appK_mono {pos} {t} {x y} {σ} {K K'} (hk : ∀ v σ, K v σ → K' v σ) (h : AppK P pos t x y σ K) : AppK P pos t x y σ K' := by
  unfold AppK at h ⊢
  split at h
  · obtain ⟨h1, h2, z, h⟩ := h
    exact ⟨h1, h2, z, appX_mono (fun r σ h => appY_mono (fun r2 σ2 h => ⟨h.1, h.2.1, h.2.2.1, hk _ _ h.2.2.2⟩) h) h⟩
  · exact h
theorem mapK_mono {t} {m i x} {σ} {K K'} (hk : ∀ σ, K σ → K' σ) (h : MapK P t m i x σ K) : MapK P t m i x σ K' := by
  unfold MapK at h ⊢
  split at h
  · obtain ⟨q, rows, h1, h2, h3, k, h4, h5, d, h6, h7⟩ := h; exact ⟨q, rows, h1, h2, h3, k, h4, h5, d, h6, hk _ h7⟩
  · exact h
theorem aop_mono {pos} {o} {σ} {K K'} (hk : ∀ σ, K σ → K' σ) (h : aop P pos o σ K) : aop P pos o σ K' := by
  unfold aop at h ⊢
  split at h
  · exact ⟨h.1, h.2.1, fun b hb => hk _ (h.2.2 b hb)⟩
  · exact ⟨h.1, h.2.1, fun b hb => hk _ (h.2.2 b hb)⟩
  · exact store_mono (fun σ => hk _) h
  · exact mapK_mono (fun σ => hk _) h
  · split at h
    · exact ⟨h.1, appK_mono (fun v σ => hk _) h.2⟩
    · exact h
  · obtain ⟨r, h1, h2, h3, h4⟩ := h; exact ⟨r, h1, h2, h3, hk _ h4⟩
theorem carve_mono {K K'} (hk : ∀ σ, K σ → K' σ) : ∀ {cv} {σ}, CarveK cv σ K → CarveK cv σ K'
  | [], σ, h => by rw [CarveK] at h ⊢; exact hk _ h
  | (n, a, z) :: cv, σ, h => by
    cases a with
    | sub t g p =>
      rw [CarveK] at h ⊢
      obtain ⟨h1, h2, h3, tk, rows, h4, h5, h6, h7, h8⟩ := h
      exact ⟨h1, h2, h3, tk, rows, h4, h5, h6, h7, carve_mono hk h8⟩
    | nils => rw [CarveK] at h ⊢; exact ⟨h.1, carve_mono hk h.2⟩
    | bsl b m sz => rw [CarveK] at h ⊢; exact ⟨h.1, h.2.1, carve_mono hk h.2.2⟩
    | _ => simp [CarveK] at h
theorem uncarve_mono : ∀ {cv} {σ} {K K'}, (∀ σ, K σ → K' σ) → UncarveK cv σ K → UncarveK cv σ K'
  | [], σ, K, K', hk, h => by rw [UncarveK] at h ⊢; exact hk _ h
  | (n, a, z) :: cv, σ, K, K', hk, h => by
    cases a with
    | sub t g p =>
      rw [UncarveK] at h ⊢
      refine uncarve_mono (fun σ h => ?_) h
      cases hn : σ.T n with
      | none => simp only [hn] at h ⊢; exact hk _ h
      | some tn =>
        simp only [hn] at h ⊢
        obtain ⟨tk, h1, h2, h3, h4⟩ := h
        exact ⟨tk, h1, h2, h3, hk _ h4⟩
    | _ =>
      rw [UncarveK] at h ⊢
      · exact uncarve_mono (fun σ h => hk _ h) h
      all_goals (intros; simp_all)
theorem callG_mono {f} {args} {σ} {K K'} (hk : ∀ v σ, K v σ → K' v σ) (h : CallG P f args σ K) : CallG P f args σ K' := by
  obtain ⟨y, as, pt, pb, r, qt, qb, h1, h2⟩ := h
  exact ⟨y, as, pt, pb, r, qt, qb, h1, carve_mono (fun σ h => ⟨h.1, h.2.1, h.2.2.1, h.2.2.2.1, h.2.2.2.2.1, h.2.2.2.2.2.1, h.2.2.2.2.2.2.1, h.2.2.2.2.2.2.2.1, uncarve_mono (fun σ h => hk _ _ h) h.2.2.2.2.2.2.2.2⟩) h2⟩
theorem fzK_mono {K K'} (hk : ∀ a σ, K a σ → K' a σ) : ∀ {bs} {args} {σ}, FzK bs args σ K → FzK bs args σ K'
  | [], args, σ, h => hk _ _ h
  | b :: bs, args, σ, h => by
    obtain ⟨vs, h1, h2, h3⟩ := h
    exact ⟨vs, h1, h2, fzK_mono hk h3⟩
theorem callF_mono {f} {args} {σ} {K K'} (hk : ∀ v σ, K v σ → K' v σ) (h : CallF P f args σ K) : CallF P f args σ K' := by
  obtain ⟨bs, h⟩ := h
  exact ⟨bs, fzK_mono (fun _ _ h => callG_mono hk h) h⟩
theorem aopL_mono {L} {pos} {o} {σ} {K K'} (hk : ∀ σ, K σ → K' σ) (h : aopL P L pos o σ K) : aopL P L pos o σ K' := by
  rcases h with ⟨hA, h⟩ | ⟨hL, h⟩ | ⟨hL, hA, r, h1, h2, h3, h4⟩
  · exact .inl ⟨hA, aop_mono hk h⟩
  · refine .inr (.inl ⟨hL, ?_⟩)
    rcases h with h | h
    · refine .inl ?_
      unfold CallO at h ⊢
      split at h
      · split at h
        · exact callF_mono (fun v σ => hk _) h
        · exact h
      · exact h
    · refine .inr ?_
      unfold SliK at h ⊢
      split at h
      · split at h
        · obtain ⟨tk, h1, el, h2, h3, i, h4, j, h5, r, h6, h7, h8⟩ := h
          exact ⟨tk, h1, el, h2, h3, i, h4, j, h5, r, h6, h7, hk _ h8⟩
        · exact h
      · exact h
  · exact .inr (.inr ⟨hL, hA, r, h1, h2, h3, hk _ h4⟩)
theorem aops_mono {ops} {base cut} {K K'} (hk : ∀ σ, K σ → K' σ) : ∀ {l} {i} {σ}, aops P ops base cut i l σ K → aops P ops base cut i l σ K'
  | [], i, σ, h => by rw [aops] at h ⊢; exact hk _ h
  | o :: rest, i, σ, h => by
    rw [aops] at h ⊢
    split at h
    · exact aopL_mono (fun σ h => aops_mono hk h) h
    · obtain ⟨s, h1, h⟩ := h
      refine ⟨s, h1, ?_⟩
      rcases h with ⟨b, h2, h3, h4⟩ | ⟨h2, h3⟩
      · exact .inl ⟨b, h2, fun hb => aopL_mono (fun σ h => aops_mono hk h) (h3 hb), fun hb => aops_mono hk (h4 hb)⟩
      · exact .inr ⟨h2, aops_mono hk h3⟩
theorem seqW_mono {p} {K K'} (hk : ∀ σ, K σ → K' σ) {σ} (h : seqW p K σ) : seqW p K' σ := by
  unfold seqW at h ⊢
  split at h
  · exact hk _ h
  · obtain ⟨σ1, h1, h2⟩ := h; exact ⟨σ1, h1, hk _ h2⟩
theorem aTr_mono {P} {ops} {base} {ts} : ∀ (tr : Tr) {σ} {K K'}, (∀ σ, K σ → K' σ) → aTr P ops base ts tr σ K → aTr P ops base ts tr σ K'
  | .fin, σ, K, K', hk, h => hk σ h
  | .stop, σ, K, K', hk, h => trivial
  | .br i t more, σ, K, K', hk, h => by
    simp only [aTr] at h ⊢
    refine ⟨?_, aTr_mono more hk h.2⟩
    have h1 := h.1
    split at h1
    · exact aops_mono (fun σ' h => aTr_mono t hk h) h1
    · exact h1.elim
theorem vstep_mono {P} {ops} {base} {r} {i} {o} {acc} {σ} {K K'} (hk : ∀ acc σ, K acc σ → K' acc σ) (h : vstep P ops base r i o acc σ K) : vstep P ops base r i o acc σ K' := by
  unfold vstep at h ⊢
  cases r with
  | no => exact aops_mono (hk acc) h
  | al =>
    dsimp only at h ⊢
    split at h
    · exact ⟨h.1, hk _ _ h.2⟩
    · exact h.elim
  | st k =>
    dsimp only at h ⊢
    split at h
    · split at h
      · exact ⟨h.1, h.2.1, hk _ _ h.2.2⟩
      · exact h.elim
    · exact h.elim
theorem aopsH_mono {P} {ops} {base} {V} : ∀ (l : List Oper) {E} {i} {ts} {acc} {σ} {K K'}, (∀ ts acc σ, K ts acc σ → K' ts acc σ) → aopsH P ops base V E i l ts acc σ K → aopsH P ops base V E i l ts acc σ K'
  | [], E, i, ts, acc, σ, K, K', hk, h => by simp only [aopsH] at h ⊢; exact hk _ _ _ h
  | o :: l, [], i, ts, acc, σ, K, K', hk, h => by simp only [aopsH] at h ⊢; exact vstep_mono (fun acc σ' h => aopsH_mono l hk h) h
  | o :: l, true :: E, i, ts, acc, σ, K, K', hk, h => by simp only [aopsH] at h ⊢; exact aopsH_mono l hk h
  | o :: l, false :: E, i, ts, acc, σ, K, K', hk, h => by simp only [aopsH] at h ⊢; exact vstep_mono (fun acc σ' h => aopsH_mono l hk h) h
theorem regW_mono {P} {ops} {base} {draw} {σ} {K K'} (hk : ∀ σ, K σ → K' σ) (h : regW P ops base draw σ K) : regW P ops base draw σ K' := by
  unfold regW at h ⊢
  cases draw with
  | false => exact aops_mono hk h
  | true =>
    obtain ⟨E, V, tr, hE, h⟩ := h
    exact ⟨E, V, tr, hE, aopsH_mono _ (fun ts acc σ h => ⟨h.1, aTr_mono tr hk h.2⟩) h⟩
theorem awp_mono : ∀ {c} {Q Q'} {σ}, (∀ q σ, Q q σ → Q' q σ) → awp P c Q σ → awp P c Q' σ
  | .skip, Q, Q', σ, hq, h => by rw [awp] at h ⊢; exact hq _ _ h
  | .region id ops draw, Q, Q', σ, hq, h => by rw [awp] at h ⊢; exact regW_mono (hq _) h
  | .seq a b, Q, Q', σ, hq, h => by
    rw [awp] at h ⊢
    refine awp_mono (fun q σ h => ?_) h
    cases q with
    | normal =>
      have h' : seqW (plain a) (awp P b Q) σ := h
      exact seqW_mono (K := awp P b Q) (K' := awp P b Q') (fun σ h => awp_mono hq h) h'
    | exit id => exact hq _ _ h
    | ret => exact hq _ _ h
  | .cond c a b, Q, Q', σ, hq, h => by
    rw [awp] at h ⊢
    obtain ⟨v, h1, h2, h3⟩ := h
    exact ⟨v, h1, fun e => awp_mono hq (h2 e), fun e => awp_mono hq (h3 e)⟩
  | .block id b, Q, Q', σ, hq, h => by
    rw [awp] at h ⊢
    refine awp_mono (fun q σ h => ?_) h
    cases q with
    | normal => exact hq _ _ h
    | exit i =>
      simp only [AE.inBlock] at h ⊢
      split at h
      · rw [if_pos ‹_›]; exact hq _ _ h
      · rw [if_neg ‹_›]; exact hq _ _ h
    | ret => exact hq _ _ h
  | .loop b, Q, Q', σ, hq, h => by
    rw [awp] at h ⊢
    intro L hL
    refine h L fun σ hσ => hL σ (awp_mono (fun q σ h => ?_) hσ)
    cases q with
    | normal => exact h
    | exit id => exact hq _ _ h
    | ret => exact hq _ _ h
  | .exit id, Q, Q', σ, hq, h => by rw [awp] at h ⊢; exact hq _ _ h
  | .ret, Q, Q', σ, hq, h => by rw [awp] at h ⊢; exact hq _ _ h
  | .rangeFunc _ _ _ _, Q, Q', σ, hq, h => by simp [awp] at h
  | .goto _, Q, Q', σ, hq, h => by simp [awp] at h
  | .label _, Q, Q', σ, hq, h => by simp [awp] at h
theorem loop_unfold {b} {Q} {σ} (h : awp P b (AE.then (fun σ' => ∃ σ1, Wk σ' σ1 ∧ awp P (.loop b) Q σ1) Q) σ) : awp P (.loop b) Q σ := by
  rw [awp]
  intro L hL
  refine ⟨σ, .nil σ, hL σ (awp_mono (fun q σ h => ?_) h)⟩
  cases q with
  | normal =>
    obtain ⟨σ1, h1, h2⟩ := h
    rw [awp] at h2
    obtain ⟨σ0, h3, h4⟩ := h2 L hL
    exact ⟨σ0, h1.trans h3, h4⟩
  | exit id => exact h
  | ret => exact h
end

/-! ### Heads -/
def valX {α : Type} (v : α) (K : α → Prop) : Prop := K v
def optX {α : Type} (o : Option α) (K : α → Prop) : Prop := ∃ x, o = some x ∧ K x
def andX (p q : Prop) : Prop := p ∧ q
def iteX (b : Bool) (p q : Prop) : Prop := (b = true ∧ p) ∨ (b = false ∧ q)
def condX (b : Bool) (p q : Prop) : Prop := (b = true → p) ∧ (b = false → q)
/-- What a rule must not go into: a later argument hangs on it. -/
structure Wrap {α : Sort _} (a : α) : Type where
def valY {α : Type} (v : α) (K : α → Prop) (_ : Wrap K) : Prop := K v
def optY {α : Type} (o : Option α) (K : α → Prop) (_ : Wrap K) : Prop := ∃ x, o = some x ∧ K x
def andY (p q : Prop) (_ : Wrap q) : Prop := p ∧ q
def condY (b : Bool) (p q : Prop) (_ : Wrap p) (_ : Wrap q) : Prop := (b = true → p) ∧ (b = false → q)
def iteY (b : Bool) (p q : Prop) (_ : Wrap p) (_ : Wrap q) : Prop := iteX b p q
@[go_sem ↓] theorem valX_go {α : Type} {v : α} {K : α → Prop} : valX v K = valY v K ⟨⟩ := rfl
@[go_sem ↓] theorem optX_go {α : Type} {o : Option α} {K : α → Prop} : optX o K = optY o K ⟨⟩ := rfl
@[go_sem ↓] theorem andX_go {p q : Prop} : andX p q = andY p q ⟨⟩ := rfl
@[go_sem ↓] theorem condX_go {b} {p q : Prop} : condX b p q = condY b p q ⟨⟩ ⟨⟩ := rfl
@[go_sem ↓] theorem iteX_go {b} {p q : Prop} : iteX b p q = iteY b p q ⟨⟩ ⟨⟩ := rfl
@[go_sem] theorem valY_eq {α : Type} {v : α} {K : α → Prop} {w : Wrap K} : valY v K w = K v := propext Iff.rfl
@[go_sem] theorem optY_some {α : Type} {x : α} {K : α → Prop} {w : Wrap K} : optY (some x) K w = K x := by simp [optY]
@[go_sem] theorem optY_none {α : Type} {K : α → Prop} {w : Wrap K} : optY none K w = False := by simp [optY]
@[go_sem] theorem andY_true {q : Prop} {w} : andY True q w = q := by simp [andY]
@[go_sem] theorem andY_false {q : Prop} {w} : andY False q w = False := by simp [andY]
@[go_sem] theorem andY_r {p : Prop} {w} : andY p True w = p := by simp [andY]
@[go_sem] theorem condY_true {p q : Prop} {w} {w'} : condY true p q w w' = p := by simp [condY]
@[go_sem] theorem condY_false {p q : Prop} {w} {w'} : condY false p q w w' = q := by simp [condY]
@[go_sem] theorem iteY_true {p q : Prop} {w} {w'} : iteY true p q w w' = p := by simp [iteX, iteY]
@[go_sem] theorem iteY_false {p q : Prop} {w} {w'} : iteY false p q w w' = q := by simp [iteX, iteY]
theorem optX_some {α : Type} {x : α} {K : α → Prop} : optX (some x) K = K x := by simp [optX]
theorem optX_none {α : Type} {K : α → Prop} : optX none K = False := by simp [optX]
theorem and_i {p q : Prop} {w} (hp : p) (hq : q) : andY p q w := ⟨hp, hq⟩
theorem cond_i {b} {p q : Prop} {w} {w'} (hp : b = true → p) (hq : b = false → q) : condY b p q w w' := ⟨hp, hq⟩
theorem cond_yes {b} {p q : Prop} {w} {w'} (h : b = true) (hp : p) : condY b p q w w' := by subst h; exact ⟨fun _ => hp, nofun⟩
theorem cond_no {b} {p q : Prop} {w} {w'} (h : b = false) (hp : q) : condY b p q w w' := by subst h; exact ⟨nofun, fun _ => hp⟩
theorem opt_i {α : Type} {o : Option α} {x : α} {K : α → Prop} {w : Wrap K} (h : o = some x) (hk : K x) : optY o K w := ⟨x, h, hk⟩
theorem ex_opt {α : Type} {o : Option α} {K : α → Prop} : (∃ x, o = some x ∧ K x) = optX o K := rfl

/-! ### What a map holds -/
@[go_sem] theorem isMp_nil' : isMp [] = false := rfl
@[go_sem] theorem isMp_one' {a} : isMp [a] = a.mp? := rfl
@[go_sem] theorem isMp_two' {a b} {l} : isMp (a :: b :: l) = false := rfl
@[go_sem] theorem noMp_nil' : noMp [] = true := rfl
@[go_sem] theorem noMp_cons' {a} {l} : noMp (a :: l) = (!a.mp? && noMp l) := rfl
attribute [go_sem] AV.mp?
/-! ### Tables -/
@[go_sem] theorem look_cons' {α : Type} {j : Nat} {x : α} {l : List (Nat × α)} {i : Nat} : look ((j, x) :: l) i = if i = j then some x else look l i := rfl
@[go_sem] theorem look_nil {α : Type} {i} : look ([] : List (Nat × α)) i = none := rfl
@[go_sem] theorem St.T_mk {s t b} {i} : St.T ⟨s, t, b⟩ i = (look t i).join := rfl
@[go_sem] theorem St.B_mk {s t b} {i} : St.B ⟨s, t, b⟩ i = (look b i).join := rfl
@[go_sem] theorem St.g_mk {s t b} {i} : St.g ⟨s, t, b⟩ i = (look s i).getD .any := rfl
@[go_sem] theorem St.t_mk {s t b} : St.t ⟨s, t, b⟩ = t := rfl
@[go_sem] theorem St.b_mk {s t b} : St.b ⟨s, t, b⟩ = b := rfl
@[go_sem] theorem St.s_mk {s t b} : St.s ⟨s, t, b⟩ = s := rfl
@[go_sem] theorem St.e_tmp {σ : St} {t : Tmp} : σ.e (.tmp t) = σ.g t := rfl
@[go_sem] theorem St.e_func {σ : St} {f : FuncId} : σ.e (.func f) = .fn f [] := rfl
@[go_sem] theorem St.e_const {σ : St} {v : Value} : σ.e (.const v) = constAV v := rfl
@[go_sem] theorem cav_int {k} {n} : constAV (.int k n) = .int k n := rfl
@[go_sem] theorem cav_bool {b} : constAV (.bool b) = .bool b := rfl
@[go_sem] theorem cav_str {s} : constAV (.string s) = .str s := rfl
@[go_sem] theorem cav_nils : constAV (.slice none 0 0) = .nils := rfl
@[go_sem] theorem cav_nilp : constAV (.pointer none) = .nilp := rfl
@[go_sem] theorem cav_agg {cs} : constAV (.agg cs.toArray) = .agg (constAVs cs) := by simp [constAV]
@[go_sem] theorem cavs_nil : constAVs [] = [] := rfl
@[go_sem] theorem cavs_cons {v} {vs} : constAVs (v :: vs) = constAV v :: constAVs vs := rfl
@[go_sem] theorem put_some {s t b} {d} {v} : St.put ⟨s, t, b⟩ (some d) v = ⟨(d, v) :: s, t, b⟩ := rfl
@[go_sem] theorem put_none {σ} {v} : St.put σ none v = σ := rfl
@[go_sem] theorem killT_mk {s t b} {i} : St.killT ⟨s, t, b⟩ i = ⟨s, (i, none) :: t, b⟩ := rfl
@[go_sem] theorem setT_mk {s t b} {i} {tk} : St.setT ⟨s, t, b⟩ i tk = ⟨s, (i, some tk) :: t, b⟩ := rfl
@[go_sem] theorem setB_mk {s t b} {i} {vs} : St.setB ⟨s, t, b⟩ i vs = ⟨s, t, (i, some vs) :: b⟩ := rfl
attribute [go_sem] Option.join_some Option.join_none Option.getD_some Option.getD_none reduceIte eq_self and_self true_and and_true
attribute [go_sem] List.getElem?_cons_zero List.getElem?_cons_succ List.length_cons List.length_nil List.take_succ_cons List.take_zero List.take_nil List.drop_succ_cons List.drop_zero List.map_cons List.map_nil List.set_cons_zero List.set_cons_succ List.cons_append List.nil_append Option.some.injEq reduceCtorEq TI.isAgg TI.sc AV.one splice List.all_cons List.all_nil Bool.and_self Bool.true_and Bool.and_true

/-! ### Code -/
def aopsY (P : Program) (ops : Array Oper) (base cut i : Nat) (l : List Oper) (σ : St) (K : St → Prop) (_ : Wrap ops) (_ : Wrap l) (_ : Wrap K) (_ : Wrap cut) : Prop := aops P ops base cut i l σ K
@[go_sem ↓] theorem aops_go {P} {ops} {base cut i} {l} {K} {σ} : aops P ops base cut i l σ K = aopsY P ops base cut i l σ K ⟨⟩ ⟨⟩ ⟨⟩ ⟨⟩ := rfl
section
variable {P : Program} {σ : St} {K : St → Prop} {Q : AE → St → Prop}
@[go_sem ↓] theorem x_skip : awp P .skip Q σ = Q .normal σ := by rw [awp]
@[go_sem ↓] theorem x_region {id} {l} : awp P (.region id l.toArray false) Q σ = aops P l.toArray (id * 1000 + 1000) 0 0 l σ (Q .normal) := by rw [awp]; rfl
/-! Regions whose order is drawn. -/
def drawY (P : Program) (id : Nat) (l : List Oper) (Q : AE → St → Prop) (σ : St) (_ : Wrap l) (_ : Wrap Q) (_ : Wrap σ) : Prop := regW P l.toArray (id * 1000 + 1000) true σ (Q .normal)
@[go_sem ↓] theorem x_draw {id} {l} : awp P (.region id l.toArray true) Q σ = drawY P id l Q σ ⟨⟩ ⟨⟩ ⟨⟩ := by rw [awp]; rfl
theorem draw_v {id} {l} {w1} {w2} {w3} (E : List Bool) (V : List (Nat × Nat)) (tr : Tr) (h : drawOkE E V tr l.toArray = true) (k : aopsH P l.toArray (id * 1000 + 1000) V E 0 l [] [] σ fun ts acc σ' => accW acc σ' fun σ' => aTr P l.toArray (id * 1000 + 1000) ts tr σ' (Q .normal)) : drawY P id l Q σ w1 w2 w3 := ⟨E, V, tr, h, k⟩
theorem draw_i {id} {l} {w1} {w2} {w3} (E : List Bool) (tr : Tr) (h : drawOkE E [] tr l.toArray = true) (k : aopsH P l.toArray (id * 1000 + 1000) [] E 0 l [] [] σ fun ts acc σ' => accW acc σ' fun σ' => aTr P l.toArray (id * 1000 + 1000) ts tr σ' (Q .normal)) : drawY P id l Q σ w1 w2 w3 := ⟨E, [], tr, h, k⟩
/-- The boxes that were filled show, one by one. -/
def accX (acc : List (Nat × List AV)) (σ : St) (K : St → Prop) : Prop := accW acc σ K
def accY (acc : List (Nat × List AV)) (σ : St) (K : St → Prop) (_ : Wrap σ) (_ : Wrap K) : Prop := accW acc σ K
@[go_sem ↓] theorem accW_go {acc} {σ} {K} : accW acc σ K = accY acc σ K ⟨⟩ ⟨⟩ := rfl
@[go_sem] theorem accY_nil {σ} {K} {w1 w2} : accY [] σ K w1 w2 = K σ := by
  unfold accY accW
  simp [freshB, addB]
theorem acc_i {acc} {s} {t} {b} {K} {w1 w2} (h : freshB ⟨s, t, b⟩ acc) (k : K ⟨s, t, addB b acc⟩) : accY acc ⟨s, t, b⟩ K w1 w2 := ⟨h, k⟩
attribute [go_sem] addB
def aopsHY (P : Program) (ops : Array Oper) (base : Nat) (V : List (Nat × Nat)) (E : List Bool) (i : Nat) (l : List Oper) (ts : List (Nat × Oper)) (acc : List (Nat × List AV)) (σ : St) (K : List (Nat × Oper) → List (Nat × List AV) → St → Prop) (_ : Wrap ops) (_ : Wrap l) (_ : Wrap ts) (_ : Wrap K) (_ : Wrap V) (_ : Wrap acc) : Prop := aopsH P ops base V E i l ts acc σ K
def vstepX (P : Program) (ops : Array Oper) (base : Nat) (r : VR) (i : Nat) (o : Oper) (acc : List (Nat × List AV)) (σ : St) (K : List (Nat × List AV) → St → Prop) : Prop := vstep P ops base r i o acc σ K
def vstepY (P : Program) (ops : Array Oper) (base : Nat) (r : VR) (i : Nat) (o : Oper) (acc : List (Nat × List AV)) (σ : St) (K : List (Nat × List AV) → St → Prop) (_ : Wrap ops) (_ : Wrap o) (_ : Wrap acc) (_ : Wrap σ) (_ : Wrap K) : Prop := vstep P ops base r i o acc σ K
section
variable {ops : Array Oper} {base i : Nat} {V : List (Nat × Nat)} {E : List Bool} {ts : List (Nat × Oper)} {acc : List (Nat × List AV)} {H : List (Nat × Oper) → List (Nat × List AV) → St → Prop} {o : Oper} {l : List Oper} {w1 : Wrap ops} {w3 : Wrap ts} {w4 : Wrap H} {w5 : Wrap V} {w6 : Wrap acc}
@[go_sem ↓] theorem aopsH_go : aopsH P ops base V E i l ts acc σ H = aopsHY P ops base V E i l ts acc σ H ⟨⟩ ⟨⟩ ⟨⟩ ⟨⟩ ⟨⟩ ⟨⟩ := rfl
@[go_sem] theorem h_nil {w2} : aopsHY P ops base V E i [] ts acc σ H w1 w2 w3 w4 w5 w6 = H ts acc σ := by unfold aopsHY; cases E with | nil => rfl | cons b E => cases b <;> rfl
@[go_sem] theorem h_true {w2} : aopsHY P ops base V (true :: E) i (o :: l) ts acc σ H w1 w2 w3 w4 w5 w6 = aopsH P ops base V E (i + 1) l ((i, o) :: ts) acc σ H := rfl
@[go_sem] theorem h_false {w2} : aopsHY P ops base V (false :: E) i (o :: l) ts acc σ H w1 w2 w3 w4 w5 w6 = vstepX P ops base (vrole V i) i o acc σ fun acc' σ' => aopsH P ops base V E (i + 1) l ts acc' σ' H := rfl
@[go_sem] theorem h_end {w2} : aopsHY P ops base V [] i (o :: l) ts acc σ H w1 w2 w3 w4 w5 w6 = vstepX P ops base (vrole V i) i o acc σ fun acc' σ' => aopsH P ops base V [] (i + 1) l ts acc' σ' H := rfl
@[go_sem] theorem h_app_cons {x} {xs b} {w2} : aopsHY P ops base V E i (List.append (x :: xs) b) ts acc σ H w1 w2 w3 w4 w5 w6 = aopsHY P ops base V E i (x :: List.append xs b) ts acc σ H w1 ⟨⟩ w3 w4 w5 w6 := rfl
@[go_sem] theorem h_app_nil {b} {w2} : aopsHY P ops base V E i (List.append [] b) ts acc σ H w1 w2 w3 w4 w5 w6 = aopsHY P ops base V E i b ts acc σ H w1 ⟨⟩ w3 w4 w5 w6 := rfl
@[go_sem] theorem h_app_app {a b c} {w2} : aopsHY P ops base V E i (List.append (List.append a b) c) ts acc σ H w1 w2 w3 w4 w5 w6 = aopsHY P ops base V E i (List.append a (List.append b c)) ts acc σ H w1 ⟨⟩ w3 w4 w5 w6 := by
  unfold aopsHY; rw [show List.append (List.append a b) c = List.append a (List.append b c) from List.append_assoc a b c]
@[go_sem ↓] theorem vstep_go {r} {K} : vstepX P ops base r i o acc σ K = vstepY P ops base r i o acc σ K ⟨⟩ ⟨⟩ ⟨⟩ ⟨⟩ ⟨⟩ := rfl
attribute [go_sem] vrole
@[go_sem] theorem vstep_no {K} {w1 w2 w3 w4 w5} : vstepY P ops base .no i o acc σ K w1 w2 w3 w4 w5 = aops P ops base (i + 1) i [o] σ (K acc) := rfl
@[go_sem] theorem vstep_al {K} {dst} {t ty} {ps} {af} {w1 w2 w3 w4 w5} : vstepY P ops base .al i ⟨dst, .alloc t, ty, ps, af, none⟩ acc σ K w1 w2 w3 w4 w5 = andX (0 < (tz P t).length ∧ (tz P t).length = tsz P t ∧ isMp ((tz P t).map zAV) = false) (K acc (σ.put dst (.box (base + i) 0))) := rfl
def stV (P : Program) (base k : Nat) (t : TypeId) (x a : AV) (dst : Option Tmp) (acc : List (Nat × List AV)) (σ : St) (K : List (Nat × List AV) → St → Prop) : Prop := match cellsOf x with
  | some cs => (cs.length = tsz P t ∧ 0 < tsz P t ∧ cs.all AV.one = true) ∧ a = .box (base + k) 0 ∧ K ((base + k, cs) :: acc) (σ.put dst .any)
  | none => False
@[go_sem] theorem vstep_st {K} {k} {dst} {t ty} {a x} {ps} {af} {w1 w2 w3 w4 w5} : vstepY P ops base (.st k) i ⟨dst, .store t a x, ty, ps, af, none⟩ acc σ K w1 w2 w3 w4 w5 = valX (σ.e x) fun x => valX (σ.e a) fun a => stV P base k t x a dst acc σ K := rfl
def stVY (P : Program) (base k : Nat) (t : TypeId) (x a : AV) (dst : Option Tmp) (acc : List (Nat × List AV)) (σ : St) (K : List (Nat × List AV) → St → Prop) (_ : Wrap x) (_ : Wrap a) (_ : Wrap acc) (_ : Wrap σ) (_ : Wrap K) : Prop := stV P base k t x a dst acc σ K
@[go_sem ↓] theorem stV_go {k} {t} {x a} {dst} {K} : stV P base k t x a dst acc σ K = stVY P base k t x a dst acc σ K ⟨⟩ ⟨⟩ ⟨⟩ ⟨⟩ ⟨⟩ := rfl
theorem stv_i {k} {t} {x a} {dst} {K} {w1 w2 w3 w4 w5} (cs : List AV) (h1 : cellsOf x = some cs) (h2 : cs.length = tsz P t ∧ 0 < tsz P t ∧ cs.all AV.one = true) (h3 : a = .box (base + k) 0) (h : K ((base + k, cs) :: acc) (σ.put dst .any)) : stVY P base k t x a dst acc σ K w1 w2 w3 w4 w5 := by
  unfold stVY stV
  rw [h1]
  exact ⟨h2, h3, h⟩
def trX (o : Option Oper) (f : Oper → Prop) : Prop := match o with
  | some o => f o
  | none => False
def trY (o : Option Oper) (f : Oper → Prop) (_ : Wrap f) : Prop := trX o f
@[go_sem ↓] theorem trX_go {x} {f} : trX x f = trY x f ⟨⟩ := rfl
@[go_sem] theorem trY_some {f} {w} : trY (some o) f w = f o := rfl
def altX (p q : Prop) : Prop := p ∧ q
def altY (p q : Prop) (_ : Wrap p) (_ : Wrap q) : Prop := p ∧ q
@[go_sem ↓] theorem altX_go {p q : Prop} : altX p q = altY p q ⟨⟩ ⟨⟩ := rfl
theorem alt_i {p q : Prop} {w} {w'} (hp : p) (hq : q) : altY p q w w' := ⟨hp, hq⟩
def aTrY (P : Program) (ops : Array Oper) (base : Nat) (ts : List (Nat × Oper)) (tr : Tr) (σ : St) (K : St → Prop) (_ : Wrap ops) (_ : Wrap ts) (_ : Wrap K) : Prop := aTr P ops base ts tr σ K
@[go_sem ↓] theorem aTr_go {tr} : aTr P ops base ts tr σ K = aTrY P ops base ts tr σ K ⟨⟩ ⟨⟩ ⟨⟩ := rfl
@[go_sem] theorem tr_fin {w3} {w4} : aTrY P ops base ts .fin σ K w1 w3 w4 = K σ := rfl
@[go_sem] theorem tr_one {t} {w3} {w4} : aTrY P ops base ts (.br i t .stop) σ K w1 w3 w4 = trX (look ts i) fun o => aops P ops base 0 i [o] σ fun σ' => aTr P ops base ts t σ' K := by
  unfold aTrY trX
  rw [aTr, aTr, and_true]
  rfl
@[go_sem] theorem tr_two {t u m} {j} {w3} {w4} : aTrY P ops base ts (.br i t (.br j u m)) σ K w1 w3 w4 = altX (aTr P ops base ts (.br i t .stop) σ K) (aTr P ops base ts (.br j u m) σ K) := by
  unfold aTrY altX
  simp only [aTr, and_true]
@[go_sem] theorem tr_sq0 {t} {w3} {w4} : aTrY P ops base ts (Tr.sq [] t) σ K w1 w3 w4 = aTrY P ops base ts t σ K w1 w3 w4 := rfl
@[go_sem] theorem tr_sq {t} {is} {w3} {w4} : aTrY P ops base ts (Tr.sq (i :: is) t) σ K w1 w3 w4 = aTrY P ops base ts (.br i (Tr.sq is t) .stop) σ K w1 w3 w4 := rfl
end
/-- What follows a statement. -/
def seqX (p : Bool) (K : St → Prop) (σ : St) : Prop := seqW p K σ
def seqY (p : Bool) (K : St → Prop) (σ : St) (_ : Wrap K) (_ : Wrap σ) : Prop := seqW p K σ
@[go_sem ↓] theorem seqX_go {p} : seqX p K σ = seqY p K σ ⟨⟩ ⟨⟩ := rfl
@[go_sem] theorem seqY_true {w1} {w2} : seqY true K σ w1 w2 = K σ := rfl
theorem seq_go {w1} {w2} (h : K σ) : seqY false K σ w1 w2 := ⟨σ, .nil σ, h⟩
theorem seq_fz {w1} {w2} {σ1} (hn : Nils σ σ1) (h : K σ1) : seqY false K σ w1 w2 := ⟨σ1, .fz hn (.nil σ1), h⟩
theorem seq_to {w1} {w2} {σ1} (h : K σ1) (hw : Wk σ σ1) : seqY false K σ w1 w2 := ⟨σ1, hw, h⟩
@[go_sem] theorem plain_region {id : Nat} {l : List Oper} : plain (.region id l.toArray false) = l.all fun o => o.guard.isNone && calm o.op := rfl
attribute [go_sem] calm Bool.and_true Bool.true_and Bool.and_false Bool.false_and
@[go_sem] theorem plain_draw {id : Nat} {l : List Oper} : plain (.region id l.toArray true) = false := rfl
@[go_sem] theorem plain_skip : plain .skip = false := rfl
@[go_sem] theorem plain_seq {a b} : plain (.seq a b) = false := rfl
@[go_sem] theorem plain_cond {c} {a b} : plain (.cond c a b) = false := rfl
@[go_sem] theorem plain_block {id} {a} : plain (.block id a) = false := rfl
@[go_sem] theorem plain_loop {a} : plain (.loop a) = false := rfl
@[go_sem] theorem plain_exit {id} : plain (.exit id) = false := rfl
@[go_sem] theorem plain_ret : plain .ret = false := rfl
attribute [go_sem] Option.isNone_none Option.isNone_some List.all_cons List.all_nil
@[go_sem ↓] theorem x_seq {a b} : awp P (.seq a b) Q σ = awp P a (AE.then (seqX (plain a) (awp P b Q)) Q) σ := by rw [awp]; rfl
@[go_sem ↓] theorem x_cond {c} {a b} : awp P (.cond c a b) Q σ = valX (σ.e c) fun v => ACond v (awp P a Q σ) (awp P b Q σ) := by rw [awp]; rfl
@[go_sem ↓] theorem x_block {id} {c} : awp P (.block id c) Q σ = awp P c (AE.inBlock id Q) σ := by rw [awp]
@[go_sem ↓] theorem x_exit {id} : awp P (.exit id) Q σ = Q (.exit id) σ := by rw [awp]
@[go_sem ↓] theorem x_ret : awp P .ret Q σ = Q .ret σ := by rw [awp]
@[go_sem] theorem ACond_bool {b} {p q : Prop} : ACond (.bool b) p q = condX b p q := by simp [ACond, condX]
@[go_sem ↓] theorem then_normal {n} : AE.then n Q .normal σ = n σ := rfl
@[go_sem ↓] theorem then_exit {n} {id} : AE.then n Q (.exit id) σ = Q (.exit id) σ := rfl
@[go_sem ↓] theorem then_ret {n} : AE.then n Q .ret σ = Q .ret σ := rfl
@[go_sem ↓] theorem block_normal {id} : AE.inBlock id Q .normal σ = Q .normal σ := rfl
@[go_sem ↓] theorem block_ret {id} : AE.inBlock id Q .ret σ = Q .ret σ := rfl
def loopY (P : Program) (b : Code) (Q : AE → St → Prop) (σ : St) (_ : Wrap b) (_ : Wrap Q) : Prop := awp P (.loop b) Q σ
/-- A loop's next round. -/
def lpX (P : Program) (b : Code) (Q : AE → St → Prop) (σ : St) : Prop := ∃ σ1, Wk σ σ1 ∧ awp P (.loop b) Q σ1
def lpY (P : Program) (b : Code) (Q : AE → St → Prop) (σ : St) (_ : Wrap b) (_ : Wrap Q) (_ : Wrap σ) : Prop := ∃ σ1, Wk σ σ1 ∧ awp P (.loop b) Q σ1
@[go_sem ↓] theorem lpX_go {b} : lpX P b Q σ = lpY P b Q σ ⟨⟩ ⟨⟩ ⟨⟩ := rfl
theorem lp_to {b} {w1} {w2} {w3} {σ1} (h : awp P (.loop b) Q σ1) (hw : Wk σ σ1) : lpY P b Q σ w1 w2 w3 := ⟨σ1, hw, h⟩
theorem loop_i {b} {w1} {w2} (h : awp P b (AE.then (lpX P b Q) Q) σ) : loopY P b Q σ w1 w2 := loop_unfold h
theorem loop_l {b} (h : awp P b (AE.then (lpX P b Q) Q) σ) : awp P (.loop b) Q σ := loop_unfold h
@[go_sem ↓] theorem x_loop_go {b} : awp P (.loop b) Q σ = loopY P b Q σ ⟨⟩ ⟨⟩ := rfl
def exitX (i j : Nat) (p q : Prop) : Prop := if i = j then p else q
@[go_sem ↓] theorem block_exit {id i} : AE.inBlock id Q (.exit i) σ = iteX (decide (i = id)) (Q .normal σ) (Q (.exit i) σ) := by
  simp only [AE.inBlock, iteX]
  by_cases h : i = id <;> simp [h]
attribute [go_sem] decide_true decide_false

/-! ### Operations -/
def opX (P : Program) (pos : Nat) (dst : Option Tmp) (op : Op) (σ : St) (K : St → Prop) : Prop := aop P pos ⟨dst, op, 0, "", #[], none⟩ σ K
theorem aop_opX {pos} {o} : aop P pos o σ K = opX P pos o.dst o.op σ K := by
  obtain ⟨dst, op, type, ps, after, guard⟩ := o
  rfl
/-- An operation of a region; L: where its order is told. -/
def opL (P : Program) (L : Bool) (pos : Nat) (dst : Option Tmp) (op : Op) (σ : St) (K : St → Prop) (_ : Wrap L) : Prop := aopL P L pos ⟨dst, op, 0, "", #[], none⟩ σ K
theorem aopL_opL {L} {pos} {o} : aopL P L pos o σ K = opL P L pos o.dst o.op σ K ⟨⟩ := by
  obtain ⟨dst, op, type, ps, after, guard⟩ := o
  rfl
@[go_sem] theorem x_nil {ops} {base cut i} {w1} {w2} {w3} {w4} : aopsY P ops base cut i [] σ K w1 w2 w3 w4 = K σ := by rw [aopsY, aops]
@[go_sem] theorem x_cons {ops} {base cut i} {dst} {op} {type} {ps} {after} {rest} {w1} {w2} {w3} {w4} :
    aopsY P ops base cut i (⟨dst, op, type, ps, after, none⟩ :: rest) σ K w1 w2 w3 w4 = opL P (decide (cut ≤ i)) (base + i) dst op σ (fun σ' => aops P ops base cut (i + 1) rest σ' K) ⟨⟩ := by
  rw [aopsY, aops]; simp only [aopL_opL]
def slotX (ops : Array Oper) (j : Nat) (K : Tmp → Prop) : Prop := optX (gslot ops j) K
@[go_sem ↓] theorem slotX_zero {dst} {op} {type} {ps} {after} {g} {rest} {K} : slotX (List.toArray (⟨some dst, op, type, ps, after, g⟩ :: rest)) 0 K = K dst := by
  simp [slotX, gslot, optX]
@[go_sem ↓] theorem slotX_succ {o} {rest} {j} {K} : slotX (List.toArray (o :: rest)) (j + 1) K = slotX rest.toArray j K := by
  simp [slotX, gslot]
def guardX (v : AV) (want : Bool) (p q q' : Prop) : Prop := (∃ b, v = .bool b ∧ (b = want → p) ∧ (b = !want → q)) ∨ (v = .tup [] ∧ q')
@[go_sem ↓] theorem guardX_true {b} {p q q' : Prop} : guardX (.bool b) true p q q' = condX b p q := by simp [guardX, condX]
@[go_sem ↓] theorem guardX_false {b} {p q q' : Prop} : guardX (.bool b) false p q q' = condX b q p := by
  simp only [guardX, condX, AV.bool.injEq, exists_eq_left', Bool.not_false, reduceCtorEq, false_and, or_false]
  exact propext And.comm
@[go_sem ↓] theorem guardX_no {want} {p q q' : Prop} : guardX (.tup []) want p q q' = q' := by simp [guardX]
@[go_sem] theorem x_guard {ops} {base cut i} {dst} {op} {type} {ps} {after} {j} {want} {rest} {w1} {w2} {w3} {w4} :
    aopsY P ops base cut i (⟨dst, op, type, ps, after, some (j, want)⟩ :: rest) σ K w1 w2 w3 w4 = slotX ops j fun s => valX (σ.g s) fun v => guardX v want
      (opL P (decide (cut ≤ i)) (base + i) dst op (σ.put (some s) (.bool want)) (fun σ' => aops P ops base cut (i + 1) rest σ' K) ⟨⟩)
      (aops P ops base cut (i + 1) rest ((σ.put (some s) (.bool (!want))).put dst (.tup [])) K)
      (aops P ops base cut (i + 1) rest (σ.put dst (.tup [])) K) := by
  rw [aopsY, aops]
  simp only [aopL_opL, slotX, optX, guardX, valX]
section
variable {L : Bool} {pos : Nat} {dst : Option Tmp} {wL : Wrap L}
theorem opL_of {op} (h : ∀ (σ : St) (K : St → Prop), CallO P ⟨dst, op, 0, "", #[], none⟩ σ K = False) (hA : isApp ⟨dst, op, 0, "", #[], none⟩ = false := by rfl) (hS : SliK P pos ⟨dst, op, 0, "", #[], none⟩ σ K = False := by rfl) : opL P L pos dst op σ K wL = opX P pos dst op σ K := by
  unfold opL aopL opX
  rw [h, hA, hS]; simp
@[go_sem ↓] theorem opL_move {x} : opL P L pos dst (.move x) σ K wL = opX P pos dst (.move x) σ K := opL_of fun _ _ => rfl
@[go_sem ↓] theorem opL_assign {x} : opL P L pos dst (.assign x) σ K wL = opX P pos dst (.assign x) σ K := opL_of fun _ _ => rfl
@[go_sem ↓] theorem opL_pick {a b c} : opL P L pos dst (.pick c a b) σ K wL = opX P pos dst (.pick c a b) σ K := opL_of fun _ _ => rfl
@[go_sem ↓] theorem opL_load {t} {a} : opL P L pos dst (.load t a) σ K wL = opX P pos dst (.load t a) σ K := opL_of fun _ _ => rfl
@[go_sem ↓] theorem opL_nilCheck {x} : opL P L pos dst (.nilCheck x) σ K wL = opX P pos dst (.nilCheck x) σ K := opL_of fun _ _ => rfl
@[go_sem ↓] theorem opL_bin {op} {t t'} {x y} : opL P L pos dst (.binOp op t x y t') σ K wL = opX P pos dst (.binOp op t x y t') σ K := opL_of fun _ _ => rfl
@[go_sem ↓] theorem opL_un {op} {t} {x} : opL P L pos dst (.unOp op t x) σ K wL = opX P pos dst (.unOp op t x) σ K := opL_of fun _ _ => rfl
@[go_sem ↓] theorem opL_convert {s d} {x} : opL P L pos dst (.convert s d x) σ K wL = opX P pos dst (.convert s d x) σ K := opL_of fun _ _ => rfl
@[go_sem ↓] theorem opL_fieldAddr {s} {x} {f} : opL P L pos dst (.fieldAddr s x f) σ K wL = opX P pos dst (.fieldAddr s x f) σ K := opL_of fun _ _ => rfl
@[go_sem ↓] theorem opL_field {s} {x} {f} : opL P L pos dst (.field s x f) σ K wL = opX P pos dst (.field s x f) σ K := opL_of fun _ _ => rfl
@[go_sem ↓] theorem opL_indexAddr {t} {x i} : opL P L pos dst (.indexAddr t x i) σ K wL = opX P pos dst (.indexAddr t x i) σ K := opL_of fun _ _ => rfl
@[go_sem ↓] theorem opL_index {t} {x i} : opL P L pos dst (.index t x i) σ K wL = opX P pos dst (.index t x i) σ K := opL_of fun _ _ => rfl
/-- A part of a slice: of one that is read, or of one of the call's own, which then goes. -/
def sliX (P : Program) (L : Bool) (pos : Nat) (dst : Option Tmp) (op : Op) (v : AV) (σ : St) (K : St → Prop) : Prop := opX P pos dst op σ K ∨ (L = true ∧ (match v with | .own _ => True | _ => False) ∧ SliK P pos ⟨dst, op, 0, "", #[], none⟩ σ K)
def sliY (P : Program) (L : Bool) (pos : Nat) (dst : Option Tmp) (op : Op) (v : AV) (σ : St) (K : St → Prop) (_ : Wrap σ) (_ : Wrap K) (_ : Wrap op) : Prop := sliX P L pos dst op v σ K
@[go_sem ↓] theorem sliX_go {op} {v} : sliX P L pos dst op v σ K = sliY P L pos dst op v σ K ⟨⟩ ⟨⟩ ⟨⟩ := rfl
@[go_sem] theorem sliY_ro {op} {rows} {w1 w2 w3} : sliY P L pos dst op (.ro rows) σ K w1 w2 w3 = opX P pos dst op σ K := by simp [sliY, sliX]
@[go_sem] theorem sliY_str {op} {s} {w1 w2 w3} : sliY P L pos dst op (.str s) σ K w1 w2 w3 = opX P pos dst op σ K := by simp [sliY, sliX]
theorem opL_slice {t} {x} {l h m} : opL P L pos dst (.slice t x l h m) σ K wL = sliX P L pos dst (.slice t x l h m) (σ.e x) σ K := by
  have h1 : CallO P ⟨dst, .slice t x l h m, 0, "", #[], none⟩ σ K = False := rfl
  have h2 : isApp ⟨dst, .slice t x l h m, 0, "", #[], none⟩ = false := rfl
  have h3 : SliK P pos ⟨dst, .slice t x l h m, 0, "", #[], none⟩ σ K = ((match σ.e x with | .own _ => True | _ => False) ∧ SliK P pos ⟨dst, .slice t x l h m, 0, "", #[], none⟩ σ K) := by
    unfold SliK
    cases m with
    | some m => simp
    | none =>
      simp only
      generalize σ.e x = v
      cases v <;> simp
  unfold opL aopL sliX opX
  rw [h1, h2]
  refine propext ⟨?_, ?_⟩
  · rintro (⟨-, h⟩ | ⟨hL, h | h⟩ | ⟨-, h, -⟩)
    · exact .inl h
    · exact h.elim
    · rw [h3] at h; exact .inr ⟨hL, h⟩
    · cases h
  · rintro (h | ⟨hL, -, h⟩)
    · exact .inl ⟨.inr rfl, h⟩
    · exact .inr (.inl ⟨hL, .inr h⟩)
@[go_sem ↓] theorem opL_sliceX {t} {x} {l h m} : opL P L pos dst (.slice t x l h m) σ K wL = valX (σ.e x) fun v => sliX P L pos dst (.slice t x l h m) v σ K := opL_slice
theorem slo_i {t el} {x} {l h} {n} {tk} {i j} {r} {w1 w2 w3} (he : σ.e x = .own n) (hT : σ.T n = some tk) (hu : ti P t = .sl el) (hz : 0 < tsz P el) (hr : ∀ row ∈ tk.rows, row.length = tsz P el) (hi : bndI (l.map σ.e) 0 = some i) (hj : bndI (h.map σ.e) tk.rows.length = some j) (hc : cutL tk.rows i j = some r) (hl : look σ.t (pos * 16) = none)
    (k : K (St.put ⟨σ.s, (pos * 16, some ⟨r, none, 0, tk.z⟩) :: (n, none) :: σ.t, σ.b⟩ dst (.own (pos * 16)))) : sliY P true pos dst (.slice t x l h none) (.own n) σ K w1 w2 w3 := by
  refine .inr ⟨rfl, trivial, ?_⟩
  unfold SliK
  simp only [he]
  exact ⟨tk, hT, el, hu, ⟨hz, hr⟩, i, hi, j, hj, r, hc, hl, k⟩
@[go_sem ↓] theorem opL_extract {x} {i} : opL P L pos dst (.extract x i) σ K wL = opX P pos dst (.extract x i) σ K := opL_of fun _ _ => rfl
@[go_sem ↓] theorem opL_makeFunc {c} {a b} : opL P L pos dst (.makeFunc c a b) σ K wL = opX P pos dst (.makeFunc c a b) σ K := opL_of fun _ _ => rfl
@[go_sem ↓] theorem opL_box {t} {x} : opL P L pos dst (.box t x) σ K wL = opX P pos dst (.box t x) σ K := opL_of fun _ _ => rfl
@[go_sem ↓] theorem opL_alloc {t} : opL P L pos dst (.alloc t) σ K wL = opX P pos dst (.alloc t) σ K := opL_of fun _ _ => rfl
@[go_sem ↓] theorem opL_build {t} {ps} : opL P L pos dst (.build t ps) σ K wL = opX P pos dst (.build t ps) σ K := opL_of fun _ _ => rfl
@[go_sem ↓] theorem opL_buildSlice {t} {n} {ps} : opL P L pos dst (.buildSlice t n ps) σ K wL = opX P pos dst (.buildSlice t n ps) σ K := opL_of fun _ _ => rfl
@[go_sem ↓] theorem opL_makeSlice {t} {l c} : opL P L pos dst (.makeSlice t l c) σ K wL = opX P pos dst (.makeSlice t l c) σ K := opL_of fun _ _ => rfl
@[go_sem ↓] theorem opL_makeMap {t} {r} : opL P L pos dst (.makeMap t r) σ K wL = opX P pos dst (.makeMap t r) σ K := opL_of fun _ _ => rfl
@[go_sem ↓] theorem opL_lookup {t} {x i} {ok} : opL P L pos dst (.lookup t x i ok) σ K wL = opX P pos dst (.lookup t x i ok) σ K := opL_of fun _ _ => rfl
@[go_sem ↓] theorem opL_mapUpdate {t} {m i x} : opL P L pos dst (.mapUpdate t m i x) σ K wL = opX P pos dst (.mapUpdate t m i x) σ K := opL_of fun _ _ => rfl
@[go_sem ↓] theorem opL_store {t} {a x} : opL P L pos dst (.store t a x) σ K wL = opX P pos dst (.store t a x) σ K := opL_of fun _ _ => rfl
@[go_sem ↓] theorem opL_len {as} {ts} : opL P L pos dst (.call ⟨.builtin .len, as, ts⟩) σ K wL = opX P pos dst (.call ⟨.builtin .len, as, ts⟩) σ K := opL_of fun _ _ => rfl
@[go_sem ↓] theorem opL_max {as} {ts} : opL P L pos dst (.call ⟨.builtin .max, as, ts⟩) σ K wL = opX P pos dst (.call ⟨.builtin .max, as, ts⟩) σ K := opL_of fun _ _ => rfl
@[go_sem ↓] theorem opL_min {as} {ts} : opL P L pos dst (.call ⟨.builtin .min, as, ts⟩) σ K wL = opX P pos dst (.call ⟨.builtin .min, as, ts⟩) σ K := opL_of fun _ _ => rfl
def opE (P : Program) (pos : Nat) (dst : Option Tmp) (op : Op) (σ : St) (K : St → Prop) : Prop := ∃ r, Ev P pos ⟨dst, op, 0, "", #[], none⟩ σ.e σ.T σ.B r ∧ freshT σ r.t ∧ freshB σ r.b ∧ K (σ.add dst r)
/-- An append; L: it does not stand ahead in a region whose order is drawn. -/
def appL (L : Bool) (p q : Prop) (_ : Wrap p) (_ : Wrap q) : Prop := (L = true ∧ p) ∨ (L = false ∧ q)
@[go_sem] theorem appL_true {p q : Prop} {w1} {w2} : appL true p q w1 w2 = p := by simp [appL]
@[go_sem] theorem appL_false {p q : Prop} {w1} {w2} : appL false p q w1 w2 = q := by simp [appL]
@[go_sem ↓] theorem opL_append {as} {ts} : opL P L pos dst (.call ⟨.builtin .append, as, ts⟩) σ K wL = appL L (opX P pos dst (.call ⟨.builtin .append, as, ts⟩) σ K) (opE P pos dst (.call ⟨.builtin .append, as, ts⟩) σ K) ⟨⟩ ⟨⟩ := by
  have h1 : CallO P ⟨dst, .call ⟨.builtin .append, as, ts⟩, 0, "", #[], none⟩ σ K = False := rfl
  have h2 : isApp ⟨dst, .call ⟨.builtin .append, as, ts⟩, 0, "", #[], none⟩ = true := rfl
  have h3 : SliK P pos ⟨dst, .call ⟨.builtin .append, as, ts⟩, 0, "", #[], none⟩ σ K = False := rfl
  unfold opL aopL opX appL opE
  rw [h1, h2, h3]
  simp
end
attribute [go_sem] Bool.not_true Bool.not_false Nat.zero_le

/-- What comes of a pure operation. -/
theorem ev_eq {pos : Nat} {dst : Option Tmp} {op : Op} (h : ∀ K', aop P pos ⟨dst, op, 0, "", #[], none⟩ σ K' = ∃ r, Ev P pos ⟨dst, op, 0, "", #[], none⟩ σ.e σ.T σ.B r ∧ freshT σ r.t ∧ freshB σ r.b ∧ K' (σ.add dst r)) {p : AV → Prop} (hp : ∀ r, Ev P pos ⟨dst, op, 0, "", #[], none⟩ σ.e σ.T σ.B r = ∃ v, p v ∧ r = ⟨v, [], []⟩) :
    opX P pos dst op σ K = ∃ v, p v ∧ K (σ.put dst v) := by
  unfold opX
  rw [h]
  refine propext ⟨?_, ?_⟩
  · rintro ⟨r, h1, h2, h3, h4⟩
    rw [hp] at h1
    obtain ⟨v, h5, rfl⟩ := h1
    exact ⟨v, h5, by cases dst <;> exact h4⟩
  · rintro ⟨v, h5, h4⟩
    exact ⟨⟨v, [], []⟩, by rw [hp]; exact ⟨v, h5, rfl⟩, trivial, trivial, by cases dst <;> exact h4⟩

@[go_sem ↓] theorem o_move {pos : Nat} {dst : Option Tmp} {x : Operand} : opX P pos dst (.move x) σ K = valX (σ.e x) fun v => K (σ.put dst v) := by
  rw [ev_eq (p := fun v => v = σ.e x) (fun _ => by simp only [aop]) (fun r => by simp [Ev])]
  simp [valX]
@[go_sem ↓] theorem o_assign {pos : Nat} {dst : Option Tmp} {x : Operand} : opX P pos dst (.assign x) σ K = valX (σ.e x) fun v => K (σ.put dst v) := by
  rw [ev_eq (p := fun v => v = σ.e x) (fun _ => by simp only [aop]) (fun r => by simp [Ev])]
  simp [valX]

def pickX (c a b : AV) (K : AV → Prop) : Prop := ∃ t, c = .bool t ∧ K (if t = true then a else b)
@[go_sem] theorem pickX_true {a b} {K} : pickX (.bool true) a b K = K a := by simp [pickX]
@[go_sem] theorem pickX_false {a b} {K} : pickX (.bool false) a b K = K b := by simp [pickX]
theorem pickX_split {t} {a b} {K} : pickX (.bool t) a b K = condX t (K a) (K b) := by cases t <;> simp [pickX, condX]
theorem o_pick {pos : Nat} {dst : Option Tmp} {c a b : Operand} : opX P pos dst (.pick c a b) σ K = pickX (σ.e c) (σ.e a) (σ.e b) fun v => K (σ.put dst v) := by
  rw [ev_eq (p := fun v => ∃ t, σ.e c = .bool t ∧ v = if t = true then σ.e a else σ.e b) (fun _ => by simp only [aop]) (fun r => by
    simp only [Ev]
    refine propext ⟨?_, ?_⟩
    · rintro ⟨t, h, rfl⟩; exact ⟨_, ⟨t, h, rfl⟩, rfl⟩
    · rintro ⟨v, ⟨t, h, rfl⟩, rfl⟩; exact ⟨t, h, rfl⟩)]
  simp only [pickX]
  refine propext ⟨?_, ?_⟩
  · rintro ⟨v, ⟨t, h, rfl⟩, hk⟩; exact ⟨t, h, hk⟩
  · rintro ⟨t, h, hk⟩; exact ⟨_, ⟨t, h, rfl⟩, hk⟩

/-! Loads. -/
def loadX (P : Program) (t : TypeId) (a : AV) (σ : St) (K : AV → Prop) : Prop := ∃ v, LoadA P σ.T σ.B t a v ∧ K v
def ldX (P : Program) (t : TypeId) (off : Nat) (vs : List AV) (K : AV → Prop) : Prop :=
  iteX (ti P t).isAgg (andX (off + tsz P t ≤ vs.length) (valX (.agg (vcells vs off (tsz P t))) K)) (andX ((ti P t).sc = true) (optX vs[off]? K))
theorem o_load {pos : Nat} {dst : Option Tmp} {t : TypeId} {a : Operand} : opX P pos dst (.load t a) σ K = loadX P t (σ.e a) σ fun v => K (σ.put dst v) :=
  ev_eq (p := fun v => LoadA P σ.T σ.B t (σ.e a) v) (fun _ => by simp only [aop]) (fun r => by simp only [Ev])
@[go_sem] theorem loadX_box {t} {b off} {K} : loadX P t (.box b off) σ K = optX (σ.B b) fun vs => andX (isMp vs = false) (ldX P t off vs K) := by
  simp only [loadX, LoadA, optX, ldX, iteX, andX, valX]
  by_cases h : (ti P t).isAgg = true
  · simp only [h, if_true]
    refine propext ⟨?_, ?_⟩
    · rintro ⟨v, ⟨vs, h1, hm, h2, rfl⟩, hk⟩; exact ⟨vs, h1, hm, .inl ⟨trivial, h2, hk⟩⟩
    · rintro ⟨vs, h1, hm, (⟨-, h2, hk⟩ | ⟨hh, -⟩)⟩
      · exact ⟨_, ⟨vs, h1, hm, h2, rfl⟩, hk⟩
      · cases hh
  · have h' : (ti P t).isAgg = false := by simpa using h
    simp only [h', Bool.false_eq_true, if_false]
    refine propext ⟨?_, ?_⟩
    · rintro ⟨v, ⟨vs, h1, hm, h2, h3⟩, hk⟩; exact ⟨vs, h1, hm, .inr ⟨trivial, h2, v, h3, hk⟩⟩
    · rintro ⟨vs, h1, hm, (⟨hh, -⟩ | ⟨-, h2, v, h3, hk⟩)⟩
      · exact hh.elim
      · exact ⟨v, ⟨vs, h1, hm, h2, h3⟩, hk⟩
@[go_sem] theorem loadX_rop {t} {vs} {off} {K} : loadX P t (.rop vs off) σ K = ldX P t off vs K := by
  simp only [loadX, LoadA, optX, ldX, iteX, andX, valX]
  by_cases h : (ti P t).isAgg = true
  · simp only [h, if_true]
    refine propext ⟨?_, ?_⟩
    · rintro ⟨v, ⟨h2, rfl⟩, hk⟩; exact .inl ⟨trivial, h2, hk⟩
    · rintro (⟨-, h2, hk⟩ | ⟨hh, -⟩)
      · exact ⟨_, ⟨h2, rfl⟩, hk⟩
      · cases hh
  · have h' : (ti P t).isAgg = false := by simpa using h
    simp only [h', Bool.false_eq_true, if_false]
    refine propext ⟨?_, ?_⟩
    · rintro ⟨v, ⟨h2, h3⟩, hk⟩; exact .inr ⟨trivial, h2, v, h3, hk⟩
    · rintro (⟨hh, -⟩ | ⟨-, h2, v, h3, hk⟩)
      · exact hh.elim
      · exact ⟨v, ⟨h2, h3⟩, hk⟩
@[go_sem] theorem loadX_elt {t} {t' sz i off} {K} : loadX P t (.elt t' sz i off) σ K =
    optX (σ.T t') fun tk => optX tk.rows[i]? fun row => andX (row.length = sz) (iteX (ti P t).isAgg (andX (off + tsz P t ≤ sz) (valX (.agg (scells t' tk.gen [] sz i row off (tsz P t))) K)) (andX ((ti P t).sc = true) (optX row[off]? fun d => K (ofT t' tk.gen [] sz i off d)))) := by
  simp only [loadX, LoadA, optX, iteX, andX, valX]
  by_cases h : (ti P t).isAgg = true
  · simp only [h, if_true]
    refine propext ⟨?_, ?_⟩
    · rintro ⟨v, ⟨tk, row, h1, h2, h3, h4, rfl⟩, hk⟩; exact ⟨tk, h1, row, h2, h3, .inl ⟨trivial, h4, hk⟩⟩
    · rintro ⟨tk, h1, row, h2, h3, (⟨-, h4, hk⟩ | ⟨hh, -⟩)⟩
      · exact ⟨_, ⟨tk, row, h1, h2, h3, h4, rfl⟩, hk⟩
      · cases hh
  · have h' : (ti P t).isAgg = false := by simpa using h
    simp only [h', Bool.false_eq_true, if_false]
    refine propext ⟨?_, ?_⟩
    · rintro ⟨v, ⟨tk, row, h1, h2, h3, h4, d, h5, rfl⟩, hk⟩; exact ⟨tk, h1, row, h2, h3, .inr ⟨trivial, h4, d, h5, hk⟩⟩
    · rintro ⟨tk, h1, row, h2, h3, (⟨hh, -⟩ | ⟨-, h4, d, h5, hk⟩)⟩
      · exact hh.elim
      · exact ⟨_, ⟨tk, row, h1, h2, h3, h4, d, h5, rfl⟩, hk⟩
@[go_sem] theorem loadX_els {t} {t' g} {p} {sz i off} {K} : loadX P t (.els t' g p sz i off) σ K =
    optX (subR σ.T t' g p) fun rows => optX rows[i]? fun row => andX (row.length = sz) (iteX (ti P t).isAgg (andX (off + tsz P t ≤ sz) (valX (.agg (scells t' g p sz i row off (tsz P t))) K)) (andX ((ti P t).sc = true) (optX row[off]? fun d => K (ofT t' g p sz i off d)))) := by
  simp only [loadX, LoadA, optX, iteX, andX, valX]
  by_cases h : (ti P t).isAgg = true
  · simp only [h, if_true]
    refine propext ⟨?_, ?_⟩
    · rintro ⟨v, ⟨tk, row, h1, h2, h3, h4, rfl⟩, hk⟩; exact ⟨tk, h1, row, h2, h3, .inl ⟨trivial, h4, hk⟩⟩
    · rintro ⟨tk, h1, row, h2, h3, (⟨-, h4, hk⟩ | ⟨hh, -⟩)⟩
      · exact ⟨_, ⟨tk, row, h1, h2, h3, h4, rfl⟩, hk⟩
      · cases hh
  · have h' : (ti P t).isAgg = false := by simpa using h
    simp only [h', Bool.false_eq_true, if_false]
    refine propext ⟨?_, ?_⟩
    · rintro ⟨v, ⟨tk, row, h1, h2, h3, h4, d, h5, rfl⟩, hk⟩; exact ⟨tk, h1, row, h2, h3, .inr ⟨trivial, h4, d, h5, hk⟩⟩
    · rintro ⟨tk, h1, row, h2, h3, (⟨hh, -⟩ | ⟨-, h4, d, h5, hk⟩)⟩
      · exact hh.elim
      · exact ⟨_, ⟨tk, row, h1, h2, h3, h4, d, h5, rfl⟩, hk⟩
/-- The rows at a place of a tree. -/
def subO (o : Option Tok) (g : Nat) (p : Pth) : Option (List (List D)) := match o with
  | some tk => if tk.gen = g then getP p tk.rows else none
  | none => none
@[go_sem ↓] theorem subR_go {T} {t g} {p} : subR T t g p = subO (T t) g p := rfl
@[go_sem] theorem subO_some {rows} {ap} {g} {q} {p} : subO (some ⟨rows, ap, g, q⟩) g p = getP p rows := by simp [subO]
def subEO (o : Option Tok) (g : Nat) (p : Pth) : Option (List (List D)) := match o with
  | some tk => if tk.gen = g then (getP p tk.rows).map tk.er else none
  | none => none
@[go_sem ↓] theorem subE_go {T} {t g} {p} : subE T t g p = subEO (T t) g p := rfl
@[go_sem] theorem subEO_some {rows} {ap} {g} {q} {p} : subEO (some ⟨rows, ap, g, q⟩) g p = (getP p rows).map (zer q) := by
  simp only [subEO, if_true]; rfl
@[go_sem] theorem zer_false {r} : zer false r = r := rfl
@[go_sem] theorem zer_true {r} : zer true r = erR r := rfl
@[go_sem] theorem rd_mk {rows} {ap} {g} {q} : Tok.rd ⟨rows, ap, g, q⟩ = zer q rows := rfl
@[go_sem] theorem er_mk {rows r} {ap} {g} {q} : Tok.er ⟨rows, ap, g, q⟩ r = zer q r := rfl
@[go_sem] theorem okZ_false {z} {rows} {ap} {g} : okZ z ⟨rows, ap, g, false⟩ = true := rfl
@[go_sem] theorem okZ_true {q} {rows} {ap} {g} : okZ true ⟨rows, ap, g, q⟩ = true := by cases q <;> rfl
@[go_sem] theorem okZ_self {q} {rows} {ap} {g} : okZ q ⟨rows, ap, g, q⟩ = true := by cases q <;> rfl
@[go_sem] theorem getP_nil {rows} : getP [] rows = some rows := rfl
def slD? (d : D) (K : List (List D) → Prop) : Prop := match d with | .sl r => K r | _ => False
@[go_sem] theorem slD?_sl {r} {K} : slD? (.sl r) K = K r := rfl
@[go_sem ↓] theorem getP_cons {sz i j} {p} {rows} {K} : optX (getP ((sz, i, j) :: p) rows) K = optX rows[i]? fun row => andX (row.length = sz) (optX row[j]? fun d => slD? d fun r => optX (getP p r) K) := by
  simp only [getP, optX, andX]
  cases rows[i]? with
  | none => simp
  | some row =>
    by_cases h : row.length = sz
    · simp only [h, if_true, true_and, Option.some.injEq, exists_eq_left']
      cases row[j]? with
      | none => simp
      | some d => cases d <;> simp [slD?]
    · simp [h]
@[go_sem] theorem scells_lit {t g} {p} {sz i} {d} {ds} {off n} : scells t g p sz i (d :: ds) off n = ofTs t g p sz i off (((d :: ds).drop off).take n) := rfl
attribute [go_sem ↓] ldX
attribute [go_sem] vcells ofD ofDs ofS ofT ofTs
end
attribute [go_sem ↓] ACond_bool guardX_true guardX_false guardX_no pickX_true pickX_false loadX_box loadX_rop loadX_elt loadX_els
end Go.Proofs.Ytgigfdghecdlgaa.Ab
