/-
  The abstract walk: a call that is lent slices and boxes, whole: slices within slices carved out before and put back afterwards.
-/
import Derived.Test.YtfbnlkaggggmiaaAbLc
namespace Go.Proofs.Ytfbnlkaggggmiaa.Ab
set_option linter.unusedVariables false
set_option linter.unusedSimpArgs false
open Go.RowKit

theorem At.stay {p p' : Pth} {d d1 d1' x : D} (h1 : p.length = 1) (h2 : p'.length = 1) (h : At p d d1) (h' : At p' d d1') : ∃ e, At p (Ab.put p' d x) e := by
  match p, p', h1, h2 with
  | [(sz, i, j)], [(sz', i', j')], _, _ =>
    cases d <;> simp only [At] at h h'
    rename_i rows
    obtain ⟨row, e, k1, k2, k3, k4⟩ := h
    obtain ⟨row', e', m1, m2, m3, m4⟩ := h'
    have hput : Ab.put [(sz', i', j')] (.sl rows) x = .sl (rows.set i' (row'.set j' x)) := by
      rw [Ab.put, m1]; simp only; rw [m3]; rfl
    rw [hput]
    by_cases hi : i' = i
    · subst hi
      rw [m1] at k1
      obtain rfl := Option.some.inj k1
      by_cases hj : j' = j
      · subst hj
        exact ⟨x, by simp only [At]; exact ⟨row'.set j' x, x, List.getElem?_set_self (lt_of_get m1), by rw [List.length_set]; exact k2, List.getElem?_set_self (lt_of_get m3), rfl⟩⟩
      · exact ⟨d1, by simp only [At]; exact ⟨row'.set j' x, e, List.getElem?_set_self (lt_of_get m1), by rw [List.length_set]; exact k2, by rw [List.getElem?_set_ne hj]; exact k3, k4⟩⟩
    · exact ⟨d1, by simp only [At]; exact ⟨row, e, by rw [List.getElem?_set_ne hi]; exact k1, k2, k3, k4⟩⟩

section
variable {cx : Cx} {w : World}
/-- What carving leaves. -/
structure Cut (cx : Cx) (w : World) (cv : List (Nat × AV × Option Nat)) (γ : Gh) (σ : St) (γ' : Gh) (σ' : St) : Prop where
  ext : Gh.Ext γ γ'
  os : OSim cx γ' σ'.T σ'.B w
  s : σ'.s = σ.s
  b : σ'.b = σ.b
  td : ∀ x, γ'.tl x → (look σ'.t x).isSome = true
  bd : ∀ x, γ'.bl x → (look σ'.b x).isSome = true
  new : ∀ x, γ'.tl x → γ.tl x ∨ look σ.t x = none
  tm : ∀ x, (look σ.t x).isSome = true → (look σ'.t x).isSome = true
  av : ∀ n a z, (n, a, z) ∈ cv → ∀ u, VSim cx.w0 γ' a u → VSim cx.w0 γ' (.own n) u
  cut : ∀ n t g p z, (n, .sub t g p, z) ∈ cv → γ'.tl t → Carved γ' w n t g p ∧ p.length = 1 ∧ ∃ tk d, σ'.T t = some tk ∧ At p (.sl tk.rows) d
  has : ∀ n t g p z, (n, .sub t g p, z) ∈ cv → (look σ'.t t).isSome = true
  keep : ∀ t tk, σ.T t = some tk → ∃ tk', σ'.T t = some tk' ∧ ∀ p d, p.length = 1 → At p (.sl tk.rows) d → ∃ e, At p (.sl tk'.rows) e
theorem St.T_mk' (s : List (Nat × AV)) (t : List (Nat × Option Tok)) (b : List (Nat × Option (List AV))) (x : Nat) : (⟨s, t, b⟩ : St).T x = (look t x).join := rfl
theorem carveK_sound : ∀ {cv : List (Nat × AV × Option Nat)} {γ : Gh} {σ : St} {K : St → Prop}, OSim cx γ σ.T σ.B w → (∀ x, γ.tl x → (look σ.t x).isSome = true) → (∀ x, γ.bl x → (look σ.b x).isSome = true) → CarveK cv σ K →
    ∃ σ' γ', K σ' ∧ Cut cx w cv γ σ γ' σ'
  | [], γ, σ, K, hs, htd, hbd, h => by
    rw [CarveK] at h
    exact ⟨σ, γ, h, Gh.Ext.refl γ, hs, rfl, rfl, htd, hbd, fun x h => .inl h, fun x h => h, fun n a z h => (by cases h), fun n t g p z h => (by cases h), fun n t g p z h => (by cases h), fun t tk h => ⟨tk, h, fun p d _ h => ⟨d, h⟩⟩⟩
  | (n, a, z) :: cv, γ, σ, K, hs, htd, hbd, h => by
    cases a with
    | sub t g p =>
      rw [CarveK] at h
      obtain ⟨-, hn, hp1, tk, rows, hT, hg, hp, hne, h⟩ := h
      have hnl : ¬ γ.tl n := fun hl => by have := htd n hl; rw [hn] at this; cases this
      have hTn : σ.T n = none := by unfold St.T; rw [hn]; rfl
      have hTt : (look σ.t t).isSome = true := by
        unfold St.T at hT
        cases hl : look σ.t t with
        | none => rw [hl] at hT; cases hT
        | some x => rfl
      have hp0 : p ≠ [] := by rintro rfl; cases hp1
      generalize hσ : ({ σ with t := (n, some ⟨rows, none, 0⟩) :: (t, some ⟨putR p tk.rows .gone, tk.sz, g⟩) :: σ.t } : St) = σ1 at h
      have e1 : σ1.T = tset (tset σ.T t (some ⟨putR p tk.rows .gone, tk.sz, g⟩)) n (some ⟨rows, none, 0⟩) := by
        funext x
        rw [← hσ, St.T_mk']
        simp only [look_cons, tset]
        by_cases hx : x = n
        · simp only [if_pos hx, Option.join_some]
        · by_cases hx2 : x = t
          · simp only [if_neg hx, if_pos hx2, Option.join_some]
          · simp only [if_neg hx, if_neg hx2]; rfl
      have e2 : σ1.B = σ.B := by rw [← hσ]; rfl
      have e3 : σ1.b = σ.b := by rw [← hσ]
      have e4 : σ1.s = σ.s := by rw [← hσ]
      have hmono : ∀ x, (look σ.t x).isSome = true → (look σ1.t x).isSome = true := fun x hx => by
        rw [← hσ]
        simp only [look_cons]
        split
        · rfl
        · split
          · rfl
          · exact hx
      have hnew : (look σ1.t n).isSome = true := by rw [← hσ]; simp only [look_cons, if_pos]; rfl
      have hat := getP_at hp
      have hpt1 : ∀ q d, q.length = 1 → At q (.sl tk.rows) d → ∃ e, At q (.sl (putR p tk.rows .gone)) e := fun q d hq hd => by
        rw [← (put_sl hp0 hat .gone).1]
        exact At.stay hq hp1 hd hat
      have hkeep1 : ∀ t' tk', σ.T t' = some tk' → ∃ tk1, σ1.T t' = some tk1 ∧ ∀ q d, q.length = 1 → At q (.sl tk'.rows) d → ∃ e, At q (.sl tk1.rows) e := fun t' tk' h' => by
        rw [e1]
        unfold tset
        by_cases hx : t' = n
        · subst hx; rw [hTn] at h'; cases h'
        · rw [if_neg hx]
          by_cases hx2 : t' = t
          · subst hx2
            rw [hT] at h'
            obtain rfl := Option.some.inj h'
            exact ⟨_, if_pos rfl, hpt1⟩
          · rw [if_neg hx2]; exact ⟨tk', h', fun q d _ hd => ⟨d, hd⟩⟩
      obtain ⟨γ1, he, hos1, hc1, htl1, hbl1⟩ : ∃ γ1, Gh.Ext γ γ1 ∧ OSim cx γ1 σ1.T σ1.B w ∧ (γ.tl t → Carved γ1 w n t g p) ∧ (∀ x, γ1.tl x → γ.tl x ∨ (x = n ∧ γ.tl t)) ∧ (∀ b, γ1.bl b → γ.bl b) := by
        rw [e1, e2]
        by_cases htl : γ.tl t
        · obtain ⟨γ1, h1, h2, h3, h4, h5⟩ := hs.carve hTn hnl htl hT hg hp0 hp hne
          exact ⟨γ1, h1, h2, fun _ => h3, fun x hx => (h4 x hx).imp id fun e => ⟨e, htl⟩, h5⟩
        · refine ⟨γ, Gh.Ext.refl γ, hs.tables (fun x tk' hx h => ?_) (fun _ _ _ h => h), fun h => absurd h htl, fun x hx => .inl hx, fun b hb => hb⟩
          unfold tset at h
          rw [if_neg (fun (e : x = n) => hnl (e ▸ hx)), if_neg (fun (e : x = t) => htl (e ▸ hx))] at h
          exact h
      obtain ⟨σ', γ', hK, hcut⟩ := carveK_sound hos1 (fun x hx => by
        rcases htl1 x hx with h | ⟨rfl, -⟩
        · exact hmono x (htd x h)
        · exact hnew) (fun x hx => by rw [e3]; exact hbd x (hbl1 x hx)) h
      have htlt : γ'.tl t → γ.tl t := fun h => by
        rcases hcut.new t h with h | h
        · rcases htl1 t h with h | ⟨h, -⟩
          · exact h
          · exact absurd h.symm hne
        · have := hmono t hTt
          rw [h] at this; cases this
      refine ⟨σ', γ', hK, he.trans hcut.ext, hcut.os, hcut.s.trans e4, hcut.b.trans e3, hcut.td, hcut.bd, fun x hx => ?_, fun x hx => hcut.tm x (hmono x hx), fun m a z' hm => ?_, fun m t' g' p' z' hm hl => ?_, fun m t' g' p' z' hm => ?_, fun t' tk' h' => ?_⟩
      · rcases hcut.new x hx with h | h
        · rcases htl1 x h with h | ⟨rfl, -⟩
          · exact .inl h
          · exact .inr hn
        · refine .inr ?_
          cases hl : look σ.t x with
          | none => rfl
          | some v =>
            have := hmono x (by rw [hl]; rfl)
            rw [h] at this; cases this
      · rcases List.mem_cons.1 hm with hm | hm
        · cases hm
          intro u hu
          simp only [VSim] at hu ⊢
          have hc := (hc1 (htlt hu.1.1)).ext hcut.ext
          rw [hc.av]
          exact ⟨⟨hc.tl, hu.2.1⟩, hu.2.2⟩
        · exact hcut.av m a z' hm
      · rcases List.mem_cons.1 hm with hm | hm
        · cases hm
          refine ⟨(hc1 (htlt hl)).ext hcut.ext, hp1, ?_⟩
          obtain ⟨tk1, h1, h2⟩ := hkeep1 t tk hT
          obtain ⟨tk2, h3, h4⟩ := hcut.keep t tk1 h1
          obtain ⟨e, h5⟩ := h2 p _ hp1 hat
          obtain ⟨e', h6⟩ := h4 p e hp1 h5
          exact ⟨tk2, e', h3, h6⟩
        · exact hcut.cut m t' g' p' z' hm hl
      · rcases List.mem_cons.1 hm with hm | hm
        · cases hm
          exact hcut.tm t (hmono t hTt)
        · exact hcut.has m t' g' p' z' hm
      · obtain ⟨tk1, h1, h2⟩ := hkeep1 t' tk' h'
        obtain ⟨tk2, h3, h4⟩ := hcut.keep t' tk1 h1
        refine ⟨tk2, h3, fun q d hq hd => ?_⟩
        obtain ⟨e, h5⟩ := h2 q d hq hd
        exact h4 q e hq h5
    | nils =>
      rw [CarveK] at h
      obtain ⟨hn, h⟩ := h
      have hnl : ¬ γ.tl n := fun hl => by have := htd n hl; rw [hn] at this; cases this
      have hTn : σ.T n = none := by unfold St.T; rw [hn]; rfl
      generalize hσ : ({ σ with t := (n, some ⟨[], z, 0⟩) :: σ.t } : St) = σ1 at h
      have hs1 := hs.putTok (t := n) (tk := ⟨[], z, 0⟩) (v := .slice none 0 0) (fp := []) hTn (fun h => (hnl h).elim) (TokOk.nil ⟨none, rfl⟩) List.nodup_nil (by simp) (fun h => (hnl h).elim) (fun h => (hnl h).elim)
      have he : Gh.Ext γ (γ.tok w n (.slice none 0 0) [] 0) := Gh.tok_ext fun h => (hnl h).elim
      have e1 : σ1.T = fun x => if x = n then some ⟨[], z, 0⟩ else σ.T x := by
        funext x
        rw [← hσ, St.T_mk']
        simp only [look_cons]
        split <;> rfl
      have e2 : σ1.B = σ.B := by rw [← hσ]; rfl
      have e3 : σ1.b = σ.b := by rw [← hσ]
      have e4 : σ1.s = σ.s := by rw [← hσ]
      have hmono : ∀ x, (look σ.t x).isSome = true → (look σ1.t x).isSome = true := fun x hx => by
        rw [← hσ]
        simp only [look_cons]
        split
        · rfl
        · exact hx
      have hnew : (look σ1.t n).isSome = true := by rw [← hσ]; simp only [look_cons, if_pos]; rfl
      rw [← e1, ← e2] at hs1
      obtain ⟨σ', γ', hK, hcut⟩ := carveK_sound hs1 (fun x hx => by
        rcases hx with h | rfl
        · exact hmono x (htd x h)
        · exact hnew) (fun x hx => by rw [e3]; exact hbd x hx) h
      refine ⟨σ', γ', hK, he.trans hcut.ext, hcut.os, hcut.s.trans e4, hcut.b.trans e3, hcut.td, hcut.bd, fun x hx => ?_, fun x hx => hcut.tm x (hmono x hx), fun m a z' hm => ?_, fun m t' g' p' z' hm hl => ?_, fun m t' g' p' z' hm => ?_, fun t' tk' h' => ?_⟩
      · rcases hcut.new x hx with h | h
        · rcases h with h | rfl
          · exact .inl h
          · exact .inr hn
        · refine .inr ?_
          cases hl : look σ.t x with
          | none => rfl
          | some v =>
            have := hmono x (by rw [hl]; rfl)
            rw [h] at this; cases this
      · rcases List.mem_cons.1 hm with hm | hm
        · cases hm
          intro u hu
          simp only [VSim] at hu ⊢
          have htln : (γ.tok w n (.slice none 0 0) [] 0).tl n := .inr rfl
          have htv : (γ.tok w n (.slice none 0 0) [] 0).tv n = .slice none 0 0 := by show (if n = n then _ else _) = _; rw [if_pos rfl]
          rw [hcut.ext.tv n htln, htv]
          exact ⟨⟨hcut.ext.tl n htln, none, 0, 0, rfl⟩, hu⟩
        · exact hcut.av m a z' hm
      · rcases List.mem_cons.1 hm with hm | hm
        · cases hm
        · exact hcut.cut m t' g' p' z' hm hl
      · rcases List.mem_cons.1 hm with hm | hm
        · cases hm
        · exact hcut.has m t' g' p' z' hm
      · have h1 : σ1.T t' = some tk' := by
          rw [e1]
          simp only
          rw [if_neg]
          · exact h'
          · rintro rfl; rw [hTn] at h'; cases h'
        exact hcut.keep t' tk' h1
    | _ => simp [CarveK] at h

/-- What putting back leaves. -/
structure Mend (cx : Cx) (w : World) (γ : Gh) (σ : St) (γ' : Gh) (σ' : St) : Prop where
  ext : Gh.Ext γ γ'
  os : OSim cx γ' σ'.T σ'.B w
  s : σ'.s = σ.s
  td : ∀ x, γ'.tl x → (look σ'.t x).isSome = true
  bd : ∀ x, γ'.bl x → (look σ'.b x).isSome = true
  tl : ∀ x, γ'.tl x → γ.tl x
  tm : ∀ x, (look σ.t x).isSome = true → (look σ'.t x).isSome = true
  bm : ∀ x, (look σ.b x).isSome = true → (look σ'.b x).isSome = true
theorem Mend.trans {γ γ' γ'' : Gh} {σ σ' σ'' : St} (h : Mend cx w γ σ γ' σ') (k : Mend cx w γ' σ' γ'' σ'') : Mend cx w γ σ γ'' σ'' :=
  ⟨h.ext.trans k.ext, k.os, k.s.trans h.s, k.td, k.bd, fun x hx => h.tl x (k.tl x hx), fun x hx => k.tm x (h.tm x hx), fun x hx => k.bm x (h.bm x hx)⟩
theorem Mend.drop {γ : Gh} {σ : St} (hs : OSim cx γ σ.T σ.B w) (htd : ∀ x, γ.tl x → (look σ.t x).isSome = true) (hbd : ∀ x, γ.bl x → (look σ.b x).isSome = true) (n : Nat) : Mend cx w γ σ γ { σ with t := (n, none) :: σ.t } := by
  have hm : ∀ x, (look σ.t x).isSome = true → (look ((n, none) :: σ.t) x).isSome = true := fun x hx => by
    rw [look_cons]; split
    · rfl
    · exact hx
  refine ⟨Gh.Ext.refl γ, hs.tables (fun x tk _ h => ?_) (fun _ _ _ h => h), rfl, fun x hx => hm x (htd x hx), hbd, fun x h => h, hm, fun x h => h⟩
  have h' : (look ((n, none) :: σ.t) x).join = some tk := h
  rw [look_cons] at h'
  split at h'
  · cases h'
  · exact h'
theorem uncarveK_sound : ∀ {cv : List (Nat × AV × Option Nat)} {γ : Gh} {σ : St} {K : St → Prop}, OSim cx γ σ.T σ.B w → (∀ x, γ.tl x → (look σ.t x).isSome = true) → (∀ x, γ.bl x → (look σ.b x).isSome = true) →
    (∀ n t g p z, (n, .sub t g p, z) ∈ cv → γ.tl t → Carved γ w n t g p) → UncarveK cv σ K → ∃ σ' γ', K σ' ∧ Mend cx w γ σ γ' σ'
  | [], γ, σ, K, hs, htd, hbd, hc, h => by
    rw [UncarveK] at h
    exact ⟨σ, γ, h, Gh.Ext.refl γ, hs, rfl, htd, hbd, fun x h => h, fun x h => h, fun x h => h⟩
  | (n, a, z) :: cv, γ, σ, K, hs, htd, hbd, hc, h => by
    have hc' : ∀ n t g p z, (n, .sub t g p, z) ∈ cv → γ.tl t → Carved γ w n t g p := fun n t g p z hm => hc n t g p z (List.mem_cons_of_mem _ hm)
    cases a with
    | sub t g p =>
      rw [UncarveK] at h
      obtain ⟨σ1, γ1, h1, hm1⟩ := uncarveK_sound hs htd hbd hc' h
      cases hTn : σ1.T n with
      | none =>
        simp only [hTn] at h1
        exact ⟨σ1, γ1, h1, hm1⟩
      | some tn =>
        simp only [hTn] at h1
        obtain ⟨tk, hT, hp, hne, h1⟩ := h1
        refine ⟨⟨σ1.s, (n, none) :: (t, some ⟨putR p tk.rows (.sl tn.rows), tk.sz, if tn.gen = 0 ∧ tk.gen = g then g else tk.gen + tn.gen + 1⟩) :: σ1.t, σ1.b⟩, ?_⟩
        have e1 : ∀ k : Option Tok, (⟨σ1.s, (n, none) :: (t, k) :: σ1.t, σ1.b⟩ : St).T = tset (tset σ1.T t k) n none := fun k => by
          funext x
          rw [St.T_mk']
          simp only [look_cons, tset]
          by_cases hx : x = n
          · simp only [if_pos hx]; rfl
          · by_cases hx2 : x = t
            · simp only [if_neg hx, if_pos hx2]; cases k <;> rfl
            · simp only [if_neg hx, if_neg hx2]; rfl
        have hm : ∀ k x, (look σ1.t x).isSome = true → (look ((n, none) :: (t, k) :: σ1.t) x).isSome = true := fun k x hx => by
          simp only [look_cons]
          split
          · rfl
          · split
            · rfl
            · exact hx
        by_cases htl : γ1.tl t
        · have hcar := (hc n t g p z (by simp) (hm1.tl t htl)).ext hm1.ext
          obtain ⟨γ2, k1, k2, k3, k4⟩ := hm1.os.uncarve htl hT hTn hp hne hcar
          refine ⟨γ2, h1, hm1.trans ⟨k1, by rw [e1]; exact k2, rfl, fun x hx => hm _ x (hm1.td x (k3 x hx)), fun x hx => hm1.bd x (k4 x hx), k3, hm _, fun x h => h⟩⟩
        · refine ⟨γ1, h1, hm1.trans ⟨Gh.Ext.refl γ1, hm1.os.tables (fun x tk' hx hh => ?_) (fun _ _ _ h => h), rfl, fun x hx => hm _ x (hm1.td x hx), hm1.bd, fun x h => h, hm _, fun x h => h⟩⟩
          rw [e1] at hh
          unfold tset at hh
          split at hh
          · cases hh
          · rw [if_neg (fun (e : x = t) => htl (e ▸ hx))] at hh; exact hh
    | _ =>
      rw [UncarveK] at h
      · obtain ⟨σ1, γ1, h1, hm1⟩ := uncarveK_sound hs htd hbd hc' h
        exact ⟨_, γ1, h1, hm1.trans (Mend.drop hm1.os hm1.td hm1.bd n)⟩
      all_goals (intros; simp_all)
theorem freeCv_spec {rt : List (Nat × Nat)} : ∀ {cv : List (Nat × AV × Option Nat)}, freeCv rt cv = true → ∀ {n t g : Nat} {p : Pth} {z : Option Nat}, (n, .sub t g p, z) ∈ cv → inv rt t = none
  | [], _, n, t, g, p, z, hm => by cases hm
  | (n0, a, z0) :: cv, h, n, t, g, p, z, hm => by
    have rest : freeCv rt cv = true := by
      cases a <;> simp_all [freeCv]
    rcases List.mem_cons.1 hm with hm | hm
    · cases hm
      simp only [freeCv, Bool.and_eq_true, List.all_eq_true] at h
      cases hi : inv rt t with
      | none => rfl
      | some c =>
        have := h.1 _ (inv_mem hi)
        simp at this
    · exact freeCv_spec rest hm
/-- The whole call. -/
theorem callG_sound {γ : Gh} {σ : St} {f : FuncId} {args : List AV} {us : List Value} {K : AV → St → Prop} (hs : OSim cx γ σ.T σ.B w) (htd : ∀ x, γ.tl x → (look σ.t x).isSome = true) (hbd : ∀ x, γ.bl x → (look σ.b x).isSome = true)
    (h : CallG cx.P f args σ K) (hv : VSims cx.w0 γ args us) :
    callable cx.P f = true ∧ Calls cx.P f us.toArray w (fun e w' => ∃ v γ' σ' r, e = .returned v ∧ K r σ' ∧ VSim cx.w0 γ' r v ∧ Gh.Ext γ γ' ∧ OSim cx γ' σ'.T σ'.B w' ∧ σ'.s = σ.s ∧ (∀ x, γ'.tl x → (look σ'.t x).isSome = true) ∧ (∀ x, γ'.bl x → (look σ'.b x).isSome = true)) := by
  obtain ⟨y, as, pt, pb, r, qt, qb, hag, h⟩ := h
  obtain ⟨σ1, γ1, ⟨hok, hpt, hpb, hpa, hqb, hfc, hlive, hgv, hun⟩, hcut⟩ := carveK_sound hs htd hbd h
  have ho := WayOk.of hok
  have hcv : ∀ n a z, look y.cv n = some (a, z) → ∀ u, VSim cx.w0 γ1 a u → VSim cx.w0 γ1 (.own n) u := fun n a z hl => hcut.av n a z (mem_of_look hl)
  unfold liveW at hlive
  simp only [Bool.and_eq_true, List.all_eq_true, decide_eq_true_eq, Bool.or_eq_true, List.any_eq_true] at hlive
  have hargs := pasL_sound hcut.os ho hpb hcv hpa (VSims.mono (Keeps.refl _) hcut.ext hv)
  obtain ⟨cxc, e1, e2, e3, e4, e5, e6, hstart⟩ := cee_start hcut.os (fun c hc => by obtain ⟨vs, hk⟩ := look_isSome hc; exact (hlive.1 _ (mem_of_look hk)).2) ho hpt hpb hcv
  have hliveB : ∀ b, (look pb b).isSome = true → (γ1.cee σ1 y).bl b := fun b hb => by
    obtain ⟨vs, hk⟩ := look_isSome hb
    exact occBs_sound hargs (hlive.1 _ (mem_of_look hk)).1
  have hliveT : ∀ c, (look pt c).isSome = true → (γ1.cee σ1 y).tl c := fun c hc => by
    obtain ⟨tk, hk⟩ := look_isSome hc
    rcases hlive.2 _ (mem_of_look hk) with h | ⟨q, hq, h⟩
    · exact occTs_sound hargs h
    · obtain ⟨b, vs⟩ := q
      have hlb : look pb b = some vs := look_of_mem hok.2.2.2.2.2.2.2.2.2 hq
      obtain ⟨us', h1, -⟩ := hstart.box b vs (hliveB b (by rw [hlb]; rfl)) hlb
      exact occTs_sound h1 h
  refine ⟨hag.1, ?_⟩
  have hc := hag.2 cxc (γ1.cee σ1 y) us e1 e6 (fun t => ⟨fun ht => by obtain ⟨n, hn, -⟩ := ht; exact ho.rt t n (mem_of_look hn), hliveT t⟩) (fun b => ⟨fun hb => by obtain ⟨⟨n, k⟩, hn, -⟩ := hb; exact ho.rb b n k (mem_of_look hn), hliveB b⟩) (by rw [e2]; exact hstart) (by rw [e3]; exact hargs)
  rw [e2] at hc
  refine hc.mono ?_
  rintro e w' ⟨v, γc, rfl, h1, h2⟩
  have hx := h1.beg
  rw [e6] at hx
  have h3 : ∀ t, (look pt t).isSome = true → t < 1000 → (γc.tl t ↔ (γ1.cee σ1 y).tl t) ∧ ((γ1.cee σ1 y).tl t → γc.tv t = (γ1.cee σ1 y).tv t ∧ ∀ tk, look qt t = some tk → tk.gen = 0 → γc.hv t 0 = (γ1.cee σ1 y).hv t 0) := fun t ht hlt =>
    ⟨⟨fun _ => hliveT t ht, fun h => hx.tl t ⟨h, hlt⟩⟩, fun h => ⟨hx.tv t ⟨h, hlt⟩, fun _ _ _ => hx.hv t 0 ⟨h, hlt⟩ rfl⟩⟩
  have h4 : ∀ b, (look pb b).isSome = true → (γc.bl b ↔ (γ1.cee σ1 y).bl b) ∧ ((γ1.cee σ1 y).bl b → γc.bb b = (γ1.cee σ1 y).bb b ∧ γc.bo b = (γ1.cee σ1 y).bo b) := fun b hb => by
    have hlt : b < 1000 := by
      obtain ⟨vs, hk⟩ := look_isSome hb
      exact (hlive.1 _ (mem_of_look hk)).2
    exact ⟨⟨fun _ => hliveB b hb, fun h => hx.bl b ⟨h, hlt⟩⟩, fun h => ⟨hx.bb b ⟨h, hlt⟩, hx.bo b ⟨h, hlt⟩⟩⟩
  have hgv' : ∀ c n, (c, n) ∈ y.rt → c < 1000 ∨ look qt c = none := fun c n hm => by
    rw [List.all_eq_true] at hgv
    have := hgv _ hm
    simpa using this
  have hqb' : ∀ b, (look pb b).isSome = true → (look qb b).isSome = true := fun b hb => by
    obtain ⟨vs, hvs⟩ := look_isSome hb
    rw [List.all_eq_true] at hqb
    exact hqb _ (mem_of_look hvs)
  obtain ⟨k1, k2, k3, k4, k5, k6⟩ := cee_end hcut.os hcut.td hcut.bd ho hpt hpb e1 e2 e3 e4 e5 h1 hqb' hgv' h3 h4
  have hcar : ∀ n t g p z, (n, .sub t g p, z) ∈ y.cv → (γ1.aft γc σ1 y).tl t → Carved (γ1.aft γc σ1 y) w' n t g p := fun n t g p z hm hl => by
    have hl1 : γ1.tl t := by
      rcases hl with hl | ⟨c, hc, -⟩
      · exact hl
      · exfalso
        have hnone := (ho.nt c t (inv_mem hc)).2
        have := hcut.has n t g p z hm
        rw [hnone] at this; cases this
    obtain ⟨c1, c2, tk, d, c3, c4⟩ := hcut.cut n t g p z hm hl1
    have hi := freeCv_spec hfc hm
    have hl3 : (σ1.less y).T t = some tk := by
      show (look (goneT y.rt σ1.t) t).join = _
      rw [goneT_look, hi]
      exact c3
    have hh := hdr_eq (hcut.os.tok t tk hl1 c3).own c4 (w' := w') fun x hx => k6 x ((hcut.os.tok t tk hl1 c3).lt x hx) (less_tok hcut.os ho hpb hl1 hl3 x hx)
    have c5 := c1.ext k1
    exact ⟨c5.tl, c5.gl, c5.tlt, c5.glt, by rw [k1.tv t hl1, k1.tv n c1.tl, hh]; exact c1.tv, c5.av, c5.hv⟩
  obtain ⟨σ3, γ3, j1, j2⟩ := uncarveK_sound k2 k4 k5 hcar hun
  exact ⟨v, γ3, σ3, bak y r, rfl, j1, VSim.mono (Keeps.refl _) j2.ext (k3 _ _ h2), (hcut.ext.trans k1).trans j2.ext, j2.os, j2.s.trans hcut.s, j2.td, j2.bd⟩
end
end Go.Proofs.Ytfbnlkaggggmiaa.Ab
