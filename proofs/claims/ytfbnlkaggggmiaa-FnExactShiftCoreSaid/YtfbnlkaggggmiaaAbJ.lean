/-
  The abstract walk, tenth part: operations that write, or take over what they are handed.
-/
import Derived.Test.YtfbnlkaggggmiaaAbI
namespace Go.Proofs.Ytfbnlkaggggmiaa.Ab
set_option linter.unusedVariables false
set_option linter.unusedSimpArgs false
open Go.RowKit

theorem one_sound {w0 : World} {γ : Gh} {a : AV} {u : Value} (ha : VSim w0 γ a u) (h : a.one = true) : u.oneCell' = true := by
  cases a with
  | any => cases h
  | agg => cases h
  | tup => cases h
  | int k n => simp only [VSim] at ha; rw [ha.1]; rfl
  | bool b => simp only [VSim] at ha; rw [ha]; rfl
  | str s => simp only [VSim] at ha; rw [ha.1]; rfl
  | ro rows => simp only [VSim, Rep] at ha; obtain ⟨_, _, rfl, -⟩ := ha; rfl
  | own t => simp only [VSim] at ha; obtain ⟨⟨-, _, _, _, he⟩, hu⟩ := ha; rw [hu, he]; rfl
  | box b off => simp only [VSim] at ha; rw [ha.2]; rfl
  | bsl b n sz => simp only [VSim] at ha; rw [ha.2.2]; rfl
  | rop ds off => simp only [VSim] at ha; obtain ⟨_, _, _, rfl, -⟩ := ha; rfl
  | elt t sz i off => simp only [VSim] at ha; obtain ⟨-, _, _, _, _, -, rfl⟩ := ha; rfl
  | sub t g p => simp only [VSim] at ha; obtain ⟨-, ⟨_, _, _, he⟩, hu⟩ := ha; rw [hu, he]; rfl
  | els t g p sz i off => simp only [VSim] at ha; obtain ⟨-, _, _, _, _, -, rfl⟩ := ha; rfl
  | fn f caps => simp only [VSim] at ha; obtain ⟨_, rfl, -⟩ := ha; rfl
  | nilp => simp only [VSim] at ha; rw [ha]; rfl
  | nils => simp only [VSim] at ha; rw [ha]; rfl
theorem ones_sound {w0 : World} {γ : Gh} : ∀ {as : List AV} {us : List Value}, VSims w0 γ as us → as.all AV.one = true → ∀ u ∈ us, u.oneCell' = true
  | [], us, h, _ => by simp only [VSims] at h; subst h; simp
  | a :: as, us, h, ha => by
    simp only [VSims] at h
    obtain ⟨u, us', rfl, h1, h2⟩ := h
    simp only [List.all_cons, Bool.and_eq_true] at ha
    intro x hx
    rcases List.mem_cons.1 hx with rfl | hx
    · exact one_sound h1 ha.1
    · exact ones_sound h2 ha.2 x hx

theorem look_cons {α : Type} (j : Nat) (x : α) (l : List (Nat × α)) (i : Nat) : look ((j, x) :: l) i = if i = j then some x else look l i := rfl
theorem St.T_killT (σ : St) (t x : Nat) : (σ.killT t).T x = if x = t then none else σ.T x := by
  unfold St.T St.killT
  simp only [look_cons]
  split <;> rfl
theorem St.T_setT (σ : St) (t : Nat) (tk : Tok) (x : Nat) : (σ.setT t tk).T x = if x = t then some tk else σ.T x := by
  unfold St.T St.setT
  simp only [look_cons]
  split <;> rfl
theorem St.B_setB (σ : St) (t : Nat) (vs : List AV) (x : Nat) : (σ.setB t vs).B x = if x = t then some vs else σ.B x := by
  unfold St.B St.setB
  simp only [look_cons]
  split <;> rfl
/-- The slots, boxes and the names of tokens are as they were. -/
structure StLe (σ σ' : St) : Prop where
  s : σ'.s = σ.s
  b : σ'.b = σ.b
  t : ∀ x, (look σ.t x).isSome = true → (look σ'.t x).isSome = true
  T : ∀ x tk, σ'.T x = some tk → σ.T x = some tk
theorem StLe.refl (σ : St) : StLe σ σ := ⟨rfl, rfl, fun _ h => h, fun _ _ h => h⟩
theorem StLe.trans {a b c : St} (h : StLe a b) (k : StLe b c) : StLe a c := ⟨k.s.trans h.s, k.b.trans h.b, fun x hx => k.t x (h.t x hx), fun x tk hx => h.T x tk (k.T x tk hx)⟩
theorem StLe.killT (σ : St) (t : Nat) : StLe σ (σ.killT t) := by
  refine ⟨rfl, rfl, fun x h => ?_, fun x tk h => ?_⟩
  · show (look ((t, none) :: σ.t) x).isSome = true
    rw [look_cons]; split
    · rfl
    · exact h
  · rw [St.T_killT] at h
    split at h
    · cases h
    · exact h
theorem StLe.B {σ σ' : St} (h : StLe σ σ') : σ'.B = σ.B := by unfold St.B; rw [h.b]
theorem StLe.osim {cx : Cx} {γ : Gh} {σ σ' : St} {w : World} (h : StLe σ σ') (hs : OSim cx γ σ.T σ.B w) : OSim cx γ σ'.T σ'.B w := by
  rw [h.B]
  exact hs.tables (fun t tk _ h1 => h.T t tk h1) (fun _ _ _ h => h)
theorem Free.of_le {cx : Cx} {γ : Gh} {σ σ' : St} {g : Nat} (h : StLe σ σ') (hf : Free cx γ σ.T σ.B g) : Free cx γ σ'.T σ'.B g :=
  ⟨fun t tk h1 h2 => hf.t t tk h1 (h.T t tk h2), by rw [h.B]; exact hf.b, hf.fr⟩

section
variable {cx : Cx} {γ : Gh} {w : World}
/-- A live slice that is given up: its blocks are free. -/
theorem free_killed {σ : St} (hs : OSim cx γ σ.T σ.B w) {t : Nat} {tk : Tok} (htl : γ.tl t) (hT : σ.T t = some tk) : ∀ g ∈ γ.tf t, Free cx γ (σ.killT t).T (σ.killT t).B g := by
  intro g hg
  refine ⟨fun x tk' h1 h2 => ?_, fun b vs h1 h2 => ?_, hs.tfr t tk htl hT g hg⟩
  · rw [St.T_killT] at h2
    split at h2
    · cases h2
    · rename_i hx
      exact hs.tds t x tk tk' (fun e => hx e.symm) htl h1 hT h2 g hg
  · intro e
    have h2' : σ.B b = some vs := h2
    exact hs.btd b t vs tk h1 htl h2' hT (e ▸ hg)

theorem emb_sound : ∀ {vs : List AV} {us : List Value} {σ : St} {K : List D → St → Prop}, OSim cx γ σ.T σ.B w → VSims cx.w0 γ vs us → EmbK vs σ K →
    ∃ ds σ' fp, K ds σ' ∧ StLe σ σ' ∧ OwnV w ds us fp ∧ fp.Nodup ∧ (∀ g ∈ fp, Free cx γ σ'.T σ'.B g) ∧ ds.length = vs.length ∧ ∀ g ∈ fp, ∃ t tk, γ.tl t ∧ σ.T t = some tk ∧ g ∈ γ.tf t
  | [], us, σ, K, hs, hv, h => by
    simp only [VSims] at hv
    simp only [EmbK] at h
    exact ⟨[], σ, [], h, StLe.refl σ, by simp [OwnV, hv], List.nodup_nil, by simp, rfl, by simp⟩
  | v :: vs, us, σ, K, hs, hv, h => by
    simp only [VSims] at hv
    obtain ⟨u, us', rfl, h1, h2⟩ := hv
    cases v with
    | int k n =>
      simp only [EmbK] at h
      obtain ⟨ds, σ', fp, k1, k2, k3, k4, k5, k6, k7⟩ := emb_sound hs h2 h
      simp only [VSim] at h1
      exact ⟨_, σ', fp, k1, k2, by simp only [OwnV]; exact ⟨u, us', [], fp, rfl, by simp only [Own]; exact ⟨h1.1, h1.2, trivial⟩, k3, rfl⟩, k4, k5, by simp [k6], by simpa using k7⟩
    | bool b =>
      simp only [EmbK] at h
      obtain ⟨ds, σ', fp, k1, k2, k3, k4, k5, k6, k7⟩ := emb_sound hs h2 h
      simp only [VSim] at h1
      exact ⟨_, σ', fp, k1, k2, by simp only [OwnV]; exact ⟨u, us', [], fp, rfl, by simp only [Own]; exact ⟨h1, trivial⟩, k3, rfl⟩, k4, k5, by simp [k6], by simpa using k7⟩
    | str s =>
      simp only [EmbK] at h
      obtain ⟨ds, σ', fp, k1, k2, k3, k4, k5, k6, k7⟩ := emb_sound hs h2 h
      simp only [VSim] at h1
      exact ⟨_, σ', fp, k1, k2, by simp only [OwnV]; exact ⟨u, us', [], fp, rfl, by simp only [Own]; exact ⟨h1.1, h1.2, trivial⟩, k3, rfl⟩, k4, k5, by simp [k6], by simpa using k7⟩
    | nils =>
      simp only [EmbK] at h
      obtain ⟨ds, σ', fp, k1, k2, k3, k4, k5, k6, k7⟩ := emb_sound hs h2 h
      simp only [VSim] at h1
      exact ⟨_, σ', fp, k1, k2, by simp only [OwnV]; exact ⟨u, us', [], fp, rfl, by simp only [Own]; exact .inl ⟨trivial, ⟨none, 0, h1, Nat.zero_le _⟩, trivial⟩, k3, rfl⟩, k4, k5, by simp [k6], by simpa using k7⟩
    | bsl b n sz =>
      simp only [EmbK] at h
      obtain ⟨rfl, h⟩ := h
      obtain ⟨ds, σ', fp, k1, k2, k3, k4, k5, k6, k7⟩ := emb_sound hs h2 h
      simp only [VSim] at h1
      exact ⟨_, σ', fp, k1, k2, by simp only [OwnV]; exact ⟨u, us', [], fp, rfl, by simp only [Own]; exact .inl ⟨trivial, ⟨_, 0, h1.2.2, Nat.zero_le _⟩, trivial⟩, k3, rfl⟩, k4, k5, by simp [k6], by simpa using k7⟩
    | own t =>
      simp only [EmbK] at h
      obtain ⟨tk, hT, h⟩ := h
      simp only [VSim] at h1
      obtain ⟨⟨htl, -⟩, hu⟩ := h1
      have hle := StLe.killT σ t
      have hfr := free_killed hs htl hT
      obtain ⟨ds, σ', fp, k1, k2, k3, k4, k5, k6, k7⟩ := emb_sound (hle.osim hs) h2 h
      refine ⟨_, σ', γ.tf t ++ fp, k1, hle.trans k2, by simp only [OwnV]; exact ⟨u, us', γ.tf t, fp, rfl, by rw [hu]; exact (hs.tok t tk htl hT).own, k3, rfl⟩, ?_, ?_, by simp [k6], ?_⟩
      · refine List.nodup_append.2 ⟨hs.tnd t tk htl hT, k4, fun g hg g' hg' e => ?_⟩
        subst e
        obtain ⟨t', tk', h3, h4, h5⟩ := k7 g hg'
        rw [St.T_killT] at h4
        split at h4
        · cases h4
        · rename_i hne
          exact hs.tds t t' tk tk' (fun e => hne e.symm) htl h3 hT h4 g hg h5
      · intro g hg
        rcases List.mem_append.1 hg with hg | hg
        · exact Free.of_le k2 (hfr g hg)
        · exact k5 g hg
      · intro g hg
        rcases List.mem_append.1 hg with hg | hg
        · exact ⟨t, tk, htl, hT, hg⟩
        · obtain ⟨t', tk', h3, h4, h5⟩ := k7 g hg
          exact ⟨t', tk', h3, hle.T t' tk' h4, h5⟩
    | _ => simp [EmbK] at h
end
end Go.Proofs.Ytfbnlkaggggmiaa.Ab
