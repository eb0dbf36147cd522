/-
  The abstract walk, fourteenth part: code, loops, functions.
-/
import Derived.Test.YtfbnlkaggggmiaaAbM
namespace Go.Proofs.Ytfbnlkaggggmiaa.Ab
set_option linter.unusedVariables false
set_option linter.unusedSimpArgs false
open Go.RowKit

section
variable {cx : Cx} {N : Nat}
theorem ops_sound {ops : Array Oper} {base : Nat} {Q : Exit → Act → World → Prop} : ∀ {l : List Oper} {i : Nat} {σ : St} {K : St → Prop} {a : Act} {w : World}, (∀ o ∈ l, operOk N o = true) → aops cx.P ops base i l σ K → SimE cx N σ a w →
    (∀ σ' a' w', K σ' → SimE cx N σ' a' w' → Q .normal a' w') → wpList cx.P ops Q l a w
  | [], i, σ, K, a, w, _, h, hs, hk => hk σ a w h hs
  | o :: l, i, σ, K, a, w, hok, h, ⟨γ, hs⟩, hk => by
    have hoo := hok o (by simp)
    unfold wpList
    unfold aops at h
    split at h
    · rename_i hg
      rw [if_pos (by simp [Region.wanted, hg])]
      exact .inl (op_sound hs hoo h fun σ' a' w' hK hs' => ops_sound (fun o ho => hok o (by simp [ho])) hK hs' hk)
    · rename_i j want hg
      obtain ⟨s, hj, h⟩ := h
      rcases h with ⟨b, hb, h1, h2⟩ | ⟨hb, h2⟩
      case inr =>
        have hy := yielded_no hs hj hb
        rw [if_neg (by simp [Region.wanted, hg, hy])]
        exact ops_sound (fun o ho => hok o (by simp [ho])) h2 ⟨γ, hs.putU (operOk_dst hoo)⟩ hk
      case inl =>
        have hy := yielded_of hs hj hb
        have hput : ∀ c, b = c → Sim cx N γ (σ.put (some s) (.bool c)) a w := fun c e => by
          subst e
          have hg' : ∀ i, (σ.put (some s) (.bool b)).g i = σ.g i := fun i => by
            rw [St.g_put]; split
            · rename_i e; cases e; exact hb.symm
            · rfl
          exact ⟨hs.os, fun i => by rw [hg']; exact hs.sl i, hs.td, hs.bd, hs.df, hs.n⟩
        by_cases hbw : b = want
        · rw [if_pos (by simp [Region.wanted, hg, hy, hbw])]
          exact .inl (op_sound (hput want hbw) hoo (h1 hbw) fun σ' a' w' hK hs' => ops_sound (fun o ho => hok o (by simp [ho])) hK hs' hk)
        · have hbn : b = !want := by cases b <;> cases want <;> simp_all
          rw [if_neg (by simp [Region.wanted, hg, hy, hbw])]
          exact ops_sound (fun o ho => hok o (by simp [ho])) (h2 hbn) ⟨γ, (hput (!want) hbn).putU (operOk_dst hoo)⟩ hk

/-! ### Telling less -/
theorem look_mem {α : Type} : ∀ {l : List (Nat × α)} {i : Nat} {x : α}, look l i = some x → (i, x) ∈ l
  | [], i, x, h => by simp [look] at h
  | (j, y) :: l, i, x, h => by
    rw [look_cons] at h
    split at h
    · rename_i e; cases h; subst e; exact List.mem_cons_self
    · exact List.mem_cons_of_mem _ (look_mem h)
theorem look_inj {l : List (Nat × Nat)} (hn : (l.map (·.2)).Nodup) {i j n m : Nat} (hi : look l i = some n) (hj : look l j = some m) (hne : i ≠ j) : n ≠ m := by
  induction l with
  | nil => simp [look] at hi
  | cons p l ih =>
    obtain ⟨a, b⟩ := p
    simp only [List.map_cons, List.nodup_cons] at hn
    rw [look_cons] at hi hj
    split at hi
    · rename_i e1
      cases hi
      split at hj
      · rename_i e2; exact absurd (e1.trans e2.symm) hne
      · intro e; subst e
        exact hn.1 (List.mem_map.2 ⟨_, look_mem hj, rfl⟩)
    · split at hj
      · cases hj
        intro e; subst e
        exact hn.1 (List.mem_map.2 ⟨_, look_mem hi, rfl⟩)
      · exact ih hn.2 hi hj
/-- The ghost under the other numbers. -/
def Gh.ren (γ : Gh) (rt rb : List (Nat × Nat)) : Gh where
  tl t := ∃ n, look rt t = some n ∧ γ.tl n
  tv t := γ.tv ((look rt t).getD t)
  tf t := γ.tf ((look rt t).getD t)
  bl b := ∃ n, look rb b = some n ∧ γ.bl n
  bb b := γ.bb ((look rb b).getD b)
  bo b := γ.bo ((look rb b).getD b)
mutual
theorem vsim_ren {w0 : World} {γ : Gh} {rt rb : List (Nat × Nat)} : ∀ {a : AV} {v : Value}, known rt rb a = true → VSim w0 γ (ren rt rb a) v → VSim w0 (γ.ren rt rb) a v
  | .own t, v, hk, h => by
    simp only [known] at hk
    obtain ⟨n, hn⟩ := Option.isSome_iff_exists.1 hk
    simp only [Ab.ren, hn, Option.getD_some, VSim] at h
    simp only [VSim, Gh.ren, hn, Option.getD_some]
    exact ⟨⟨⟨n, rfl, h.1.1⟩, h.1.2⟩, h.2⟩
  | .box b off, v, hk, h => by
    simp only [known] at hk
    obtain ⟨n, hn⟩ := Option.isSome_iff_exists.1 hk
    simp only [Ab.ren, hn, Option.getD_some, VSim] at h
    simp only [VSim, Gh.ren, hn, Option.getD_some]
    exact ⟨⟨n, rfl, h.1⟩, h.2⟩
  | .bsl b m sz, v, hk, h => by
    simp only [known] at hk
    obtain ⟨n, hn⟩ := Option.isSome_iff_exists.1 hk
    simp only [Ab.ren, hn, Option.getD_some, VSim] at h
    simp only [VSim, Gh.ren, hn, Option.getD_some]
    exact ⟨⟨n, rfl, h.1⟩, h.2⟩
  | .elt t sz i off, v, hk, h => by
    simp only [known] at hk
    obtain ⟨n, hn⟩ := Option.isSome_iff_exists.1 hk
    simp only [Ab.ren, hn, Option.getD_some, VSim] at h
    simp only [VSim, Gh.ren, hn, Option.getD_some]
    exact ⟨⟨n, rfl, h.1⟩, h.2⟩
  | .agg vs, v, hk, h => by
    simp only [known] at hk
    simp only [Ab.ren, VSim] at h
    obtain ⟨us, hv, hs⟩ := h
    simp only [VSim]
    exact ⟨us, hv, vsims_ren hk hs⟩
  | .tup vs, v, hk, h => by
    simp only [known] at hk
    simp only [Ab.ren, VSim] at h
    obtain ⟨us, hv, hs⟩ := h
    simp only [VSim]
    exact ⟨us, hv, vsims_ren hk hs⟩
  | .fn f vs, v, hk, h => by
    simp only [known] at hk
    simp only [Ab.ren, VSim] at h
    obtain ⟨us, hv, hs⟩ := h
    simp only [VSim]
    exact ⟨us, hv, vsims_ren hk hs⟩
  | .any, v, hk, h => trivial
  | .int _ _, v, hk, h => by simpa [Ab.ren, VSim] using h
  | .bool _, v, hk, h => by simpa [Ab.ren, VSim] using h
  | .str _, v, hk, h => by simpa [Ab.ren, VSim] using h
  | .ro _, v, hk, h => by simpa only [Ab.ren, VSim] using h
  | .rop vs off, v, hk, h => by
    simp only [known] at hk
    simp only [Ab.ren, VSim] at h
    obtain ⟨b, o, us, hv, hs, hc⟩ := h
    simp only [VSim]
    exact ⟨b, o, us, hv, vsims_ren hk hs, hc⟩
  | .nilp, v, hk, h => by simpa [Ab.ren, VSim] using h
  | .nils, v, hk, h => by simpa [Ab.ren, VSim] using h
theorem vsims_ren {w0 : World} {γ : Gh} {rt rb : List (Nat × Nat)} : ∀ {as : List AV} {us : List Value}, knowns rt rb as = true → VSims w0 γ (rens rt rb as) us → VSims w0 (γ.ren rt rb) as us
  | [], us, hk, h => by simpa [rens, VSims] using h
  | a :: as, us, hk, h => by
    simp only [knowns, Bool.and_eq_true] at hk
    simp only [rens, VSims] at h
    obtain ⟨u, us', rfl, h1, h2⟩ := h
    simp only [VSims]
    exact ⟨u, us', rfl, vsim_ren hk.1 h1, vsims_ren hk.2 h2⟩
end
theorem weakS_spec {rt rb : List (Nat × Nat)} {σ : St} : ∀ {l : List (Nat × AV)}, WeakS rt rb σ l → ∀ i av, (i, av) ∈ l → known rt rb av = true ∧ σ.g i = ren rt rb av
  | [], _, i, av, h => by cases h
  | (j, x) :: l, hw, i, av, h => by
    simp only [WeakS] at hw
    rcases List.mem_cons.1 h with h | h
    · cases h; exact ⟨hw.1, hw.2.1⟩
    · exact weakS_spec hw.2.2 i av h
theorem weakT_spec {rt : List (Nat × Nat)} {σ : St} : ∀ {l : List (Nat × Option Tok)}, WeakT rt σ l → ∀ t tk, (t, some tk) ∈ l → ∃ n, look rt t = some n ∧ σ.T n = some tk
  | [], _, t, tk, h => by cases h
  | (j, some x) :: l, hw, t, tk, h => by
    simp only [WeakT] at hw
    rcases List.mem_cons.1 h with h | h
    · cases h; exact hw.1
    · exact weakT_spec hw.2 t tk h
  | (j, none) :: l, hw, t, tk, h => by
    simp only [WeakT] at hw
    rcases List.mem_cons.1 h with h | h
    · cases h
    · exact weakT_spec hw.2 t tk h
theorem weakB_spec {rt rb : List (Nat × Nat)} {σ : St} : ∀ {l : List (Nat × Option (List AV))}, WeakB rt rb σ l → ∀ b vs, (b, some vs) ∈ l → ∃ n, look rb b = some n ∧ knowns rt rb vs = true ∧ σ.B n = some (rens rt rb vs)
  | [], _, b, vs, h => by cases h
  | (j, some x) :: l, hw, b, vs, h => by
    simp only [WeakB] at hw
    rcases List.mem_cons.1 h with h | h
    · cases h; exact hw.1
    · exact weakB_spec hw.2 b vs h
  | (j, none) :: l, hw, b, vs, h => by
    simp only [WeakB] at hw
    rcases List.mem_cons.1 h with h | h
    · cases h
    · exact weakB_spec hw.2 b vs h
theorem join_some {α : Type} {o : Option (Option α)} {x : α} (h : o.join = some x) : o = some (some x) := by
  cases o with
  | none => cases h
  | some o => simp at h; rw [h]

theorem weak0_sound {σ σ0 : St} {a : Act} {w : World} (hs : SimE cx N σ a w) (hw : Weak0 σ σ0) : SimE cx N σ0 a w := by
  obtain ⟨γ, hs⟩ := hs
  obtain ⟨rt, rb, ⟨hnt, hnb⟩, ⟨hlt, hlb⟩, hS, hT, hB⟩ := hw
  have kT : ∀ t tk, σ0.T t = some tk → ∃ n, look rt t = some n ∧ σ.T n = some tk := fun t tk h => weakT_spec hT t tk (look_mem (join_some h))
  have kB : ∀ b vs, σ0.B b = some vs → ∃ n, look rb b = some n ∧ knowns rt rb vs = true ∧ σ.B n = some (rens rt rb vs) := fun b vs h => weakB_spec hB b vs (look_mem (join_some h))
  have etv : ∀ t n, look rt t = some n → (γ.ren rt rb).tv t = γ.tv n ∧ (γ.ren rt rb).tf t = γ.tf n := fun t n h => by simp [Gh.ren, h]
  have ebb : ∀ b n, look rb b = some n → (γ.ren rt rb).bb b = γ.bb n ∧ (γ.ren rt rb).bo b = γ.bo n := fun t n h => by simp [Gh.ren, h]
  refine ⟨γ.ren rt rb, ⟨⟨hs.os.frm, fun t tk h1 h2 => ?_, fun t tk h1 h2 => ?_, fun t t' tk tk' hne h1 h1' h2 h2' => ?_, fun b vs h1 h2 => ?_, fun b b' vs vs' hne h1 h1' h2 h2' => ?_, fun b t vs tk h1 h1' h2 h2' => ?_, fun t tk h1 h2 => ?_, fun b vs h1 h2 => ?_⟩, fun i => ?_, fun t h => ?_, fun b h => ?_, hs.df, hs.n⟩⟩
  · obtain ⟨n, hn, hl⟩ := h1
    obtain ⟨m, hm, ht⟩ := kT t tk h2
    rw [hn] at hm; cases hm
    rw [(etv t n hn).1, (etv t n hn).2]; exact hs.os.tok n tk hl ht
  · obtain ⟨n, hn, hl⟩ := h1
    obtain ⟨m, hm, ht⟩ := kT t tk h2
    rw [hn] at hm; cases hm
    rw [(etv t n hn).2]; exact hs.os.tnd n tk hl ht
  · obtain ⟨n, hn, hl⟩ := h1
    obtain ⟨m, hm, ht⟩ := kT t tk h2
    rw [hn] at hm; cases hm
    obtain ⟨n', hn', hl'⟩ := h1'
    obtain ⟨m', hm', ht'⟩ := kT t' tk' h2'
    rw [hn'] at hm'; cases hm'
    rw [(etv t n hn).2, (etv t' n' hn').2]
    exact hs.os.tds n n' tk tk' (look_inj hnt hn hn' hne) hl hl' ht ht'
  · obtain ⟨n, hn, hl⟩ := h1
    obtain ⟨m, hm, hk, ht⟩ := kB b vs h2
    rw [hn] at hm; cases hm
    obtain ⟨us, h3, h4⟩ := hs.os.box n _ hl ht
    rw [(ebb b n hn).1, (ebb b n hn).2]
    exact ⟨us, vsims_ren hk h3, h4⟩
  · obtain ⟨n, hn, hl⟩ := h1
    obtain ⟨m, hm, hk, ht⟩ := kB b vs h2
    rw [hn] at hm; cases hm
    obtain ⟨n', hn', hl'⟩ := h1'
    obtain ⟨m', hm', hk', ht'⟩ := kB b' vs' h2'
    rw [hn'] at hm'; cases hm'
    rw [(ebb b n hn).1, (ebb b' n' hn').1]
    exact hs.os.bds n n' _ _ (look_inj hnb hn hn' hne) hl hl' ht ht'
  · obtain ⟨n, hn, hl⟩ := h1
    obtain ⟨m, hm, hk, ht⟩ := kB b vs h2
    rw [hn] at hm; cases hm
    obtain ⟨n', hn', hl'⟩ := h1'
    obtain ⟨m', hm', ht'⟩ := kT t tk h2'
    rw [hn'] at hm'; cases hm'
    rw [(ebb b n hn).1, (etv t n' hn').2]
    exact hs.os.btd n n' _ tk hl hl' ht ht'
  · obtain ⟨n, hn, hl⟩ := h1
    obtain ⟨m, hm, ht⟩ := kT t tk h2
    rw [hn] at hm; cases hm
    rw [(etv t n hn).2]; exact hs.os.tfr n tk hl ht
  · obtain ⟨n, hn, hl⟩ := h1
    obtain ⟨m, hm, hk, ht⟩ := kB b vs h2
    rw [hn] at hm; cases hm
    rw [(ebb b n hn).1, (ebb b n hn).2]
    rcases hs.os.bfr n _ hl ht with h | ⟨x, hx, k1, k2, k3, k4⟩
    · exact .inl h
    · refine .inr ⟨x, hx, k1, k2, ?_, k4⟩
      rw [k3]
      have : ∀ l : List AV, (rens rt rb l).length = l.length := fun l => by induction l with | nil => rfl | cons y l ih => simp [rens, ih]
      exact this vs
  · unfold St.g
    cases hl : look σ0.s i with
    | none => trivial
    | some av =>
      obtain ⟨h1, h2⟩ := weakS_spec hS i av (look_mem hl)
      have h3 := hs.sl i
      rw [h2] at h3
      exact vsim_ren h1 h3
  · obtain ⟨n, hn, -⟩ := h
    rw [List.all_eq_true] at hlt
    exact hlt (t, n) (look_mem hn)
  · obtain ⟨n, hn, -⟩ := h
    rw [List.all_eq_true] at hlb
    exact hlb (b, n) (look_mem hn)
theorem vsims_set {w0 : World} {γ : Gh} : ∀ {vs : List AV} {us : List Value} {j : Nat} {x : AV}, VSims w0 γ vs us → (∀ u, us[j]? = some u → VSim w0 γ x u) → VSims w0 γ (vs.set j x) us
  | [], us, j, x, h, _ => by simpa using h
  | v :: vs, us, j, x, h, hx => by
    simp only [VSims] at h
    obtain ⟨u, us', rfl, h1, h2⟩ := h
    cases j with
    | zero => simp only [List.set_cons_zero, VSims]; exact ⟨u, us', rfl, hx u (by simp), h2⟩
    | succ j => simp only [List.set_cons_succ, VSims]; exact ⟨u, us', rfl, h1, vsims_set h2 fun u' hu => hx u' (by simpa using hu)⟩
theorem vsims_get {w0 : World} {γ : Gh} : ∀ {vs : List AV} {us : List Value} {j : Nat} {x : AV} {u : Value}, VSims w0 γ vs us → vs[j]? = some x → us[j]? = some u → VSim w0 γ x u
  | [], us, j, x, u, h, h1, _ => by simp at h1
  | v :: vs, us, j, x, u, h, hx, hu => by
    simp only [VSims] at h
    obtain ⟨u0, us', rfl, h1, h2⟩ := h
    cases j with
    | zero => simp at hx hu; subst hx; subst hu; exact h1
    | succ j => exact vsims_get h2 (by simpa using hx) (by simpa using hu)
theorem Sim.boxed {γ : Gh} {σ : St} {a : Act} {w : World} (hs : Sim cx N γ σ a w) {b : Nat} {vs vs' : List AV} (hb : σ.B b = some vs) (hl : vs'.length = vs.length) (hv : ∀ us, VSims cx.w0 γ vs us → VSims cx.w0 γ vs' us) : Sim cx N γ ⟨σ.s, σ.t, (b, some vs') :: σ.b⟩ a w := by
  have hB : ∀ x, St.B ⟨σ.s, σ.t, (b, some vs') :: σ.b⟩ x = if x = b then some vs' else σ.B x := fun x => by
    unfold St.B; simp only [look_cons]; split <;> rfl
  have old : ∀ x ws, γ.bl x → St.B ⟨σ.s, σ.t, (b, some vs') :: σ.b⟩ x = some ws → ∃ ws0, σ.B x = some ws0 ∧ ws0.length = ws.length ∧ ∀ us, VSims cx.w0 γ ws0 us → VSims cx.w0 γ ws us := fun x ws hx h => by
    rw [hB] at h
    split at h
    · rename_i e; subst e; cases h; exact ⟨vs, hb, hl.symm, hv⟩
    · exact ⟨ws, h, rfl, fun _ h => h⟩
  refine ⟨⟨hs.os.frm, hs.os.tok, hs.os.tnd, hs.os.tds, fun x ws h1 h2 => ?_, fun x y ws ws' hne h1 h1' h2 h2' => ?_, fun x t ws tk h1 h1' h2 h2' => ?_, hs.os.tfr, fun x ws h1 h2 => ?_⟩, hs.sl, hs.td, fun x hx => ?_, hs.df, hs.n⟩
  · obtain ⟨ws0, k1, -, k2⟩ := old x ws h1 h2
    obtain ⟨us, j1, j2⟩ := hs.os.box x ws0 h1 k1
    exact ⟨us, k2 us j1, j2⟩
  · obtain ⟨ws0, k1, -, -⟩ := old x ws h1 h2
    obtain ⟨ws0', k1', -, -⟩ := old y ws' h1' h2'
    exact hs.os.bds x y ws0 ws0' hne h1 h1' k1 k1'
  · obtain ⟨ws0, k1, -, -⟩ := old x ws h1 h2
    exact hs.os.btd x t ws0 tk h1 h1' k1 h2'
  · obtain ⟨ws0, k1, k2, -⟩ := old x ws h1 h2
    rw [← k2]
    exact hs.os.bfr x ws0 h1 k1
  · show (look ((b, some vs') :: σ.b) x).isSome = true
    rw [look_cons]; split
    · rfl
    · exact hs.bd x hx
theorem Sim.nilTok {γ : Gh} {σ : St} {a : Act} {w : World} (hs : Sim cx N γ σ a w) {t : Nat} (ap : Option (TypeId × Nat)) (ht : look σ.t t = none) : Sim cx N (γ.tok t (.slice none 0 0) []) ⟨σ.s, (t, some ⟨[], ap⟩) :: σ.t, σ.b⟩ a w ∧ ∀ v, v = .slice none 0 0 → VSim cx.w0 (γ.tok t (.slice none 0 0) []) (.own t) v := by
  have hnt : ¬ γ.tl t := fun h => by have := hs.td t h; rw [ht] at this; cases this
  have hT : σ.T t = none := by unfold St.T; rw [ht]; rfl
  have hos := hs.os.putTok (t := t) (tk := ⟨[], ap⟩) (v := .slice none 0 0) (fp := []) hT (fun h => (hnt h).elim) (by
    unfold TokOk
    cases ap with
    | none => exact .inl ⟨rfl, ⟨none, 0, rfl, Nat.zero_le _⟩, rfl⟩
    | some p => exact .inl ⟨⟨none, rfl⟩, rfl, rfl⟩) List.nodup_nil (by simp)
  have he : Gh.Ext γ (γ.tok t (.slice none 0 0) []) := Gh.tok_ext fun h => (hnt h).elim
  have hTe : (fun x => if x = t then some ⟨[], ap⟩ else σ.T x) = St.T ⟨σ.s, (t, some ⟨[], ap⟩) :: σ.t, σ.b⟩ := by
    funext x
    unfold St.T
    simp only [look_cons]
    split <;> rfl
  rw [hTe] at hos
  refine ⟨⟨hos, fun i => VSim.mono (Keeps.refl _) he (hs.sl i), fun x hx => ?_, hs.bd, hs.df, hs.n⟩, fun v hv => ?_⟩
  · show (look ((t, some ⟨[], ap⟩) :: σ.t) x).isSome = true
    rw [look_cons]; split
    · rfl
    · rename_i hne
      exact hs.td x (hx.resolve_right hne)
  · simp only [VSim]
    have : (γ.tok t (.slice none 0 0) []).tv t = .slice none 0 0 := by show (if t = t then _ else _) = _; rw [if_pos rfl]
    rw [this]
    exact ⟨⟨.inr rfl, none, 0, 0, rfl⟩, hv⟩
theorem nils_sound {σ σ1 : St} {a : Act} {w : World} (h : Nils σ σ1) : SimE cx N σ a w → SimE cx N σ1 a w := by
  induction h with
  | done σ => exact id
  | @slot σ σ1 i t ap hi ht hk ih =>
    rintro ⟨γ, hs⟩
    refine ih ?_
    obtain ⟨h1, h2⟩ := hs.nilTok ap ht
    have hv := hs.sl i
    rw [hi] at hv
    simp only [VSim] at hv
    refine ⟨_, ⟨h1.os, fun x => ?_, h1.td, h1.bd, h1.df, h1.n⟩⟩
    have hg : St.g ⟨(i, .own t) :: σ.s, (t, some ⟨[], ap⟩) :: σ.t, σ.b⟩ x = if x = i then .own t else σ.g x := by
      unfold St.g; simp only [look_cons]; split <;> rfl
    rw [hg]
    split
    · rename_i e; subst e; exact h2 _ hv
    · exact h1.sl x
  | @cell σ σ1 b j t ap vs hb hj ht hk ih =>
    rintro ⟨γ, hs⟩
    refine ih ?_
    obtain ⟨h1, h2⟩ := hs.nilTok ap ht
    refine ⟨_, Sim.boxed h1 (b := b) (vs := vs) hb (by simp) fun us hu => vsims_set hu fun u h => h2 u ?_⟩
    have := vsims_get hu hj h
    simpa only [VSim] using this
  | @drop σ σ1 b j vs hb hk ih =>
    rintro ⟨γ, hs⟩
    refine ih ?_
    exact ⟨γ, Sim.boxed hs (b := b) (vs := vs) hb (by simp) fun us hu => vsims_set hu fun u h => by simp only [VSim]⟩
theorem weak_sound {σ σ0 : St} {a : Act} {w : World} (hs : SimE cx N σ a w) (hw : Weak σ σ0) : SimE cx N σ0 a w := by
  obtain ⟨σ1, h1, h2⟩ := hw
  exact weak0_sound (nils_sound h1 hs) h2

end
end Go.Proofs.Ytfbnlkaggggmiaa.Ab
