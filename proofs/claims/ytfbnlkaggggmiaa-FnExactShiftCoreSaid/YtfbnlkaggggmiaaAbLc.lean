/-
  The abstract walk: a call that is lent slices and boxes: what the caller has afterwards.
-/
import Derived.Test.YtfbnlkaggggmiaaAbLb
namespace Go.Proofs.Ytfbnlkaggggmiaa.Ab
set_option linter.unusedVariables false
set_option linter.unusedSimpArgs false
open Go.RowKit

section
variable {cx : Cx} {γ : Gh} {σ : St} {w : World} {y : Way} {pt : List (Nat × Tok)} {pb : List (Nat × List AV)}
/-- What the callee begins with. -/
theorem cee_start (hs : OSim cx γ σ.T σ.B w) (hp2 : ∀ c, (look pb c).isSome = true → c < 1000) (ho : WayOk y σ pt pb) (hpt : PassT y.rt σ pt) (hpb : PassB y σ (σ.less y) pb) (hcv : ∀ n a z, look y.cv n = some (a, z) → ∀ u, VSim cx.w0 γ a u → VSim cx.w0 γ (.own n) u) :
    ∃ cxc : Cx, cxc.P = cx.P ∧ cxc.we = w ∧ cxc.w0 = view cx γ σ y w ∧ cxc.L = lentL γ y pb ∧ cxc.LF = LentF γ σ y ∧ cxc.g0 = (γ.cee σ y).pin ∧ OSim cxc (γ.cee σ y) (look pt) (look pb) w := by
  have hS : ∀ g, (LentF γ σ y g ∨ ∃ x ∈ lentL γ y pb, x.1 = g) → LentS γ σ y g := fun g h => by
    rcases h with h | ⟨x, hx, rfl⟩
    · exact .inl h
    · obtain ⟨b, n, k, h1, h2, rfl⟩ := mem_lentL.1 hx
      exact .inr ⟨b, n, k, h1, h2, rfl⟩
  have hlow : ∀ g, (LentF γ σ y g ∨ ∃ x ∈ lentL γ y pb, x.1 = g) → cx.P.low ≤ g := fun g h => by
    rcases lentS_fr hs ho hpb (hS g h) with h | h
    · exact Nat.le_trans cx.lowe h
    · exact cx.low g h
  refine ⟨⟨cx.P, w, view cx γ σ y w, lentL γ y pb, LentF γ σ y, view_keeps hs, fun g o h => view_vw hs ho hpb (hS g h), hlow, Nat.le_trans cx.lowe hs.frm.size, (γ.cee σ y).pin, fun t ht => ht.2, fun b hb => hb.2⟩, rfl, rfl, rfl, rfl, rfl, rfl, ?_⟩
  have etv : ∀ {c n}, look y.rt c = some n → (γ.cee σ y).tv c = γ.tv n ∧ (γ.cee σ y).tf c = γ.tf n := fun h => ⟨by show γ.tv (y.m _) = _; rw [m_eq h], by show γ.tf (y.m _) = _; rw [m_eq h]⟩
  have ebb : ∀ {b q}, look y.rb b = some q → (γ.cee σ y).bb b = γ.bb q.1 ∧ (γ.cee σ y).bo b = γ.bo q.1 + q.2 := fun h => ⟨by show γ.bb (y.mb _).1 = _; rw [mb_eq h], by show γ.bo (y.mb _).1 + (y.mb _).2 = _; rw [mb_eq h]⟩
  -- a lent slice
  have tk_ : ∀ {c tk}, (γ.cee σ y).tl c → look pt c = some tk → ∃ n tk', look y.rt c = some n ∧ γ.tl n ∧ tk.gen = 0 ∧ σ.T n = some tk' ∧ tk'.rows = tk.rows ∧ (tk.sz = none ∨ tk'.sz = tk.sz) := fun {c tk} h1 h2 => by
    obtain ⟨n, hn, hl⟩ := h1
    obtain ⟨n', hn', h0, tk', hT, hr, hz⟩ := passT_spec hpt h2
    rw [hn] at hn'; cases hn'
    exact ⟨n, tk', hn, hl, h0, hT, hr, hz⟩
  have bx_ : ∀ {b vs}, (γ.cee σ y).bl b → look pb b = some vs → ∃ q ws, look y.rb b = some q ∧ γ.bl q.1 ∧ σ.B q.1 = some ws ∧ q.2 + vs.length ≤ ws.length ∧ PasL y (σ.less y) (vcells ws q.2 vs.length) vs := fun {b vs} h1 h2 => by
    obtain ⟨q, hq, hl⟩ := h1
    obtain ⟨q', hq', ws, hB, hle, hp⟩ := passB_spec hpb h2
    rw [hq] at hq'; cases hq'
    exact ⟨q, ws, hq, hl, hB, hle, hp⟩
  have rb_ : ∀ {b n k}, (b, n, k) ∈ y.rb → ∃ vs ws, look pb b = some vs ∧ σ.B n = some ws ∧ k + vs.length ≤ ws.length := fun {b n k} h => by
    obtain ⟨vs, hvs⟩ := look_isSome (ho.rb b n k h)
    obtain ⟨q, hq, ws, hws, hle, -⟩ := passB_spec hpb hvs
    rw [ho.blook.2 h] at hq; cases hq
    exact ⟨vs, ws, hvs, hws, hle⟩
  refine ⟨⟨hs.frm.sh, rfl, rfl, rfl, Nat.le_refl _, fun _ _ _ _ => rfl, fun x hx => ?_⟩, fun c tk h1 h2 => ?_, fun c tk h1 h2 => ?_, fun c c' tk tk' hne h1 h1' h2 h2' g hg => ?_, fun b vs h1 h2 => ?_, fun b b' vs vs' hne h1 h1' h2 h2' => ?_, fun b c vs tk h1 h1' h2 h2' => ?_, fun c tk h1 h2 g hg => ?_, fun b vs h1 h2 => ?_, fun c tk h1 h2 => ?_, Gh.pin_ext _⟩
  · obtain ⟨b, n, k, h1, h2, rfl⟩ := mem_lentL.1 hx
    obtain ⟨vs, ws, -, hws, -⟩ := rb_ h1
    obtain ⟨us, -, cs, e, h3, -⟩ := hs.box n ws h2 hws
    exact ⟨cs, cs, e, h3, h3, rfl, fun _ _ => rfl⟩
  · obtain ⟨n, tk', hn, hl, -, hT, hr, hz⟩ := tk_ h1 h2
    rw [(etv hn).1, (etv hn).2]
    exact (hs.tok n tk' hl hT).as hr hz
  · obtain ⟨n, tk', hn, hl, -, hT, -⟩ := tk_ h1 h2
    rw [(etv hn).2]; exact hs.tnd n tk' hl hT
  · obtain ⟨n, tk1, hn, hl, -, hT, -⟩ := tk_ h1 h2
    obtain ⟨n', tk2, hn', hl', -, hT', -⟩ := tk_ h1' h2'
    rw [(etv hn).2] at hg
    rw [(etv hn').2]
    refine hs.tds n n' tk1 tk2 ?_ hl hl' hT hT' g hg
    rintro rfl
    have k1 := inv_of_mem ho.t2 (ho.tlook.1 hn)
    rw [inv_of_mem ho.t2 (ho.tlook.1 hn')] at k1
    cases k1; exact hne rfl
  · obtain ⟨q, ws, hq, hl, hB, hle, hp⟩ := bx_ h1 h2
    obtain ⟨us, h3, cs, e, h4, h5⟩ := hs.box q.1 ws hl hB
    have hul := h3.length
    have h6 := pasL_sound hs ho hpb hcv hp (h3.take_drop q.2 vs.length)
    refine ⟨_, h6, ?_⟩
    rw [(ebb hq).1, (ebb hq).2]
    refine ⟨cs, e, h4, fun j hj => ?_⟩
    rw [List.length_take, List.length_drop] at hj
    rw [List.getElem?_take_of_lt (by omega), List.getElem?_drop, Nat.add_assoc]
    exact h5 _ (by omega)
  · obtain ⟨q, ws, hq, hl, hB, -⟩ := bx_ h1 h2
    obtain ⟨q', ws', hq', hl', hB', -⟩ := bx_ h1' h2'
    rw [(ebb hq).1, (ebb hq').1]
    refine hs.bds q.1 q'.1 ws ws' ?_ hl hl' hB hB'
    intro e
    obtain ⟨n, k⟩ := q
    obtain ⟨n', k'⟩ := q'
    simp only at e
    subst e
    have k1 := invB_of_mem ho.b2 (ho.blook.1 hq)
    rw [invB_of_mem ho.b2 (ho.blook.1 hq')] at k1
    cases k1; exact hne rfl
  · obtain ⟨q, ws, hq, hl, hB, -⟩ := bx_ h1 h2
    obtain ⟨n, tk1, hn, hl', -, hT, -⟩ := tk_ h1' h2'
    rw [(ebb hq).1, (etv hn).2]
    exact hs.btd q.1 n ws tk1 hl hl' hB hT
  · obtain ⟨n, tk1, hn, hl, -, hT, -⟩ := tk_ h1 h2
    rw [(etv hn).2] at hg
    refine .inr ⟨⟨c, n, tk1, hn, hl, hT, hg⟩, fun x hx e => ?_⟩
    obtain ⟨b, m, k, k1, k2, rfl⟩ := mem_lentL.1 hx
    obtain ⟨vs, ws, -, hws, -⟩ := rb_ k1
    exact hs.btd m n ws tk1 k2 hl hws hT (by rw [show γ.bb m = g from e]; exact hg)
  · obtain ⟨⟨n, k⟩, ws, hq, hl, hB, -⟩ := bx_ h1 h2
    rw [(ebb hq).1, (ebb hq).2]
    have hm := ho.blook.1 hq
    refine .inr ⟨hp2 b (by rw [h2]; rfl), (γ.bb n, γ.bo n + k, ((look pb b).map List.length).getD 0), mem_lentL.2 ⟨b, n, k, hm, hl, rfl⟩, rfl, rfl, by rw [h2]; rfl, fun z hz e => ?_⟩
    obtain ⟨b', n', k', k1, k2, rfl⟩ := mem_lentL.1 hz
    obtain ⟨vs', ws', -, hws', -⟩ := rb_ k1
    have hnn : n' = n := Classical.byContradiction fun hne => hs.bds n' n ws' ws hne k2 hl hws' hB e
    subst hnn
    have h3 := invB_of_mem ho.b2 hm
    rw [invB_of_mem ho.b2 k1] at h3
    cases h3; rfl
  · obtain ⟨n, tk1, hn, hl, h0, hT, hr, -⟩ := tk_ h1 h2
    have hh := hs.hds n tk1 hl hT
    refine ⟨h0, fun g hg => Nat.le_of_eq (hg.trans h0.symm), fun q r hq => ?_⟩
    rw [(etv hn).1]
    show _ = γ.hv (y.m c) (genOf σ (y.m c)) q
    rw [m_eq hn]
    have : genOf σ n = tk1.gen := by unfold genOf; rw [hT]; rfl
    rw [this]
    exact hh.2.2 q r (by rw [hr]; exact hq)

/-! ### Afterwards -/
theorem TokOk.gen {w : World} {r : List (List D)} {z : Option Nat} {k k' : Nat} {v : Value} {fp : List Nat} (h : TokOk w ⟨r, z, k⟩ v fp) : TokOk w ⟨r, z, k'⟩ v fp := h
open Classical in
/-- The caller's ghost afterwards; γc: the callee's at its end. -/
noncomputable def Gh.aft (γ γc : Gh) (σ : St) (y : Way) : Gh where
  tl n := γ.tl n ∨ ∃ c, inv y.nt n = some c ∧ γc.tl c
  tv n := match inv y.nt n with
    | .some c => γc.tv c
    | .none => γ.tv n
  tf n := match inv y.rt n with
    | .some c => γc.tf c
    | .none => match inv y.nt n with
      | .some c => γc.tf c
      | .none => γ.tf n
  bl n := γ.bl n ∨ ∃ c, inv y.nb n = some c ∧ γc.bl c
  bb n := match inv y.nb n with
    | .some c => γc.bb c
    | .none => γ.bb n
  bo n := match inv y.nb n with
    | .some c => γc.bo c
    | .none => γ.bo n
  gl n g := match inv y.rt n with
    | .some c => γ.gl n g ∨ ∃ k, γc.gl c k ∧ g = genOf σ n + k
    | .none => match inv y.nt n with
      | .some c => γc.gl c g
      | .none => γ.gl n g
  hv n g := match inv y.rt n with
    | .some c => if γ.tl n ∧ γ.gl n g then γ.hv n g else γc.hv c (g - genOf σ n)
    | .none => match inv y.nt n with
      | .some c => γc.hv c g
      | .none => γ.hv n g

theorem nodup_fst {α : Type} {l : List (Nat × α)} (hn : (l.map (·.1)).Nodup) {c : Nat} {x x' : α} (h : (c, x) ∈ l) (h' : (c, x') ∈ l) : x = x' := by
  have h1 := look_of_mem hn h
  rw [look_of_mem hn h'] at h1
  exact (Option.some.inj h1).symm
theorem inv_append {l l' : List (Nat × Nat)} {n : Nat} : inv (l ++ l') n = (inv l n).or (inv l' n) := by
  induction l with
  | nil => rfl
  | cons x l ih =>
    obtain ⟨c, m⟩ := x
    rw [List.cons_append, inv_cons, inv_cons]
    split
    · rfl
    · exact ih
/-- What a slice of the caller is afterwards: the callee's, or as it was. -/
structure CTok (γ γ' γc : Gh) (y : Way) (qt : List (Nat × Tok)) (n : Nat) (tk : Tok) (c : Nat) (tkc : Tok) : Prop where
  i : inv (y.rt ++ y.nt) n = some c
  tl : γc.tl c
  q : look qt c = some tkc
  r : tkc.rows = tk.rows
  z : tkc.sz = tk.sz
  tv : γ'.tv n = γc.tv c
  tf : γ'.tf n = γc.tf c
structure OTok (γ γ' : Gh) (σ : St) (y : Way) (n : Nat) (tk : Tok) : Prop where
  i : inv (y.rt ++ y.nt) n = none
  tl : γ.tl n
  T : σ.T n = some tk
  tv : γ'.tv n = γ.tv n
  tf : γ'.tf n = γ.tf n
structure LBox (γ γ' γc : Gh) (σ : St) (y : Way) (qb : List (Nat × List AV)) (n : Nat) (us : List AV) (b k : Nat) (ws vs : List AV) : Prop where
  i : invB y.rb n = some (b, k)
  bl : γ.bl n
  bc : γc.bl b
  q : look qb b = some vs
  B : σ.B n = some ws
  e : us = splice ws k (baks y vs)
  bb : γ'.bb n = γ.bb n
  bo : γ'.bo n = γ.bo n
  cb : γc.bb b = γ.bb n
  co : γc.bo b = γ.bo n + k
structure NBox (γ γ' γc : Gh) (y : Way) (qb : List (Nat × List AV)) (n : Nat) (us : List AV) (c : Nat) (vs : List AV) : Prop where
  i : inv y.nb n = some c
  bc : γc.bl c
  q : look qb c = some vs
  e : us = baks y vs
  bb : γ'.bb n = γc.bb c
  bo : γ'.bo n = γc.bo c
structure OBox (γ γ' : Gh) (σ : St) (y : Way) (n : Nat) (us : List AV) : Prop where
  i : invB y.rb n = none
  j : inv y.nb n = none
  bl : γ.bl n
  B : σ.B n = some us
  bb : γ'.bb n = γ.bb n
  bo : γ'.bo n = γ.bo n

theorem kept_mem : ∀ {l : List (Nat × Nat)} {c n : Nat}, (c, n) ∈ kept l → (c, n) ∈ l ∧ c < 1000
  | (a, b) :: l, c, n, h => by
    rw [kept] at h
    split at h
    · rename_i hd
      rcases List.mem_cons.1 h with h | h
      · cases h; exact ⟨by simp, of_decide_eq_true hd⟩
      · obtain ⟨h1, h2⟩ := kept_mem h
        exact ⟨List.mem_cons_of_mem _ h1, h2⟩
    · obtain ⟨h1, h2⟩ := kept_mem h
      exact ⟨List.mem_cons_of_mem _ h1, h2⟩
mutual
theorem bak_sound {w1 w2 : World} {γc γ' : Gh} (ht : ∀ c n, look (kept y.rt ++ y.nt) c = some n → γc.tl c → γ'.tl n ∧ γ'.tv n = γc.tv c) (hb : ∀ b q, look y.rb b = some q → γc.bl b → γ'.bl q.1 ∧ γc.bb b = γ'.bb q.1 ∧ γc.bo b = γ'.bo q.1 + q.2)
    (hn : ∀ b n, look y.nb b = some n → γc.bl b → γ'.bl n ∧ γ'.bb n = γc.bb b ∧ γ'.bo n = γc.bo b) (hm : y.md = true → w1 = w2) : ∀ {a : AV} {v : Value}, VSim w1 γc a v → VSim w2 γ' (bak y a) v
  | .int _ _, v, h => by simpa only [bak, VSim] using h
  | .bool _, v, h => by simpa only [bak, VSim] using h
  | .str _, v, h => by simpa only [bak, VSim] using h
  | .nilp, v, h => by simpa only [bak, VSim] using h
  | .nils, v, h => by simpa only [bak, VSim] using h
  | .ro rows, v, h => by
    simp only [bak]
    split
    · rename_i hmd
      simp only [VSim] at h ⊢
      rw [← hm hmd]; exact h
    · trivial
  | .own c, v, h => by
    simp only [bak]
    cases hl : look (kept y.rt ++ y.nt) c with
    | none => trivial
    | some n =>
      simp only [VSim] at h ⊢
      obtain ⟨h1, h2⟩ := ht c n hl h.1.1
      rw [h2]; exact ⟨⟨h1, h.1.2⟩, h.2⟩
  | .elt c sz i off, v, h => by
    simp only [bak]
    cases hl : look (kept y.rt ++ y.nt) c with
    | none => trivial
    | some n =>
      simp only [VSim] at h ⊢
      obtain ⟨h1, h2⟩ := ht c n hl h.1
      rw [h2]; exact ⟨h1, h.2⟩
  | .box b off, v, h => by
    simp only [bak]
    cases hl : look y.rb b with
    | some q =>
      simp only [VSim] at h ⊢
      obtain ⟨h1, h2, h3⟩ := hb b q hl h.1
      refine ⟨h1, ?_⟩
      rw [h.2, h2, h3, Nat.add_assoc]
    | none =>
      simp only
      cases hl' : look y.nb b with
      | none => trivial
      | some n =>
        simp only [VSim] at h ⊢
        obtain ⟨h1, h2, h3⟩ := hn b n hl' h.1
        refine ⟨h1, ?_⟩
        rw [h.2, h2, h3]
  | .agg vs, v, h => by
    simp only [bak, VSim] at h ⊢
    obtain ⟨us, rfl, h⟩ := h
    exact ⟨us, rfl, baks_sound ht hb hn hm h⟩
  | .tup vs, v, h => by
    simp only [bak, VSim] at h ⊢
    obtain ⟨us, rfl, h⟩ := h
    exact ⟨us, rfl, baks_sound ht hb hn hm h⟩
  | .any, v, h => by simp only [bak]; trivial
  | .rop _ _, v, h => by simp only [bak]; trivial
  | .bsl _ _ _, v, h => by simp only [bak]; trivial
  | .sub _ _ _, v, h => by simp only [bak]; trivial
  | .els _ _ _ _ _ _, v, h => by simp only [bak]; trivial
  | .fn _ _, v, h => by simp only [bak]; trivial
theorem baks_sound {w1 w2 : World} {γc γ' : Gh} (ht : ∀ c n, look (kept y.rt ++ y.nt) c = some n → γc.tl c → γ'.tl n ∧ γ'.tv n = γc.tv c) (hb : ∀ b q, look y.rb b = some q → γc.bl b → γ'.bl q.1 ∧ γc.bb b = γ'.bb q.1 ∧ γc.bo b = γ'.bo q.1 + q.2)
    (hn : ∀ b n, look y.nb b = some n → γc.bl b → γ'.bl n ∧ γ'.bb n = γc.bb b ∧ γ'.bo n = γc.bo b) (hm : y.md = true → w1 = w2) : ∀ {as : List AV} {us : List Value}, VSims w1 γc as us → VSims w2 γ' (baks y as) us
  | [], us, h => by simpa only [baks, VSims] using h
  | a :: as, us, h => by
    simp only [baks, VSims] at h ⊢
    obtain ⟨u, us', rfl, h1, h2⟩ := h
    exact ⟨u, us', rfl, bak_sound ht hb hn hm h1, baks_sound ht hb hn hm h2⟩
end
theorem baks_len : ∀ vs : List AV, (baks y vs).length = vs.length
  | [] => rfl
  | v :: vs => by rw [baks, List.length_cons, List.length_cons, baks_len vs]

theorem cee_end {cxc : Cx} {γc : Gh} {qt : List (Nat × Tok)} {qb : List (Nat × List AV)} {w' : World} (hs : OSim cx γ σ.T σ.B w) (htd : ∀ t, γ.tl t → (look σ.t t).isSome = true) (hbd : ∀ b, γ.bl b → (look σ.b b).isSome = true)
    (ho : WayOk y σ pt pb) (hpt : PassT y.rt σ pt) (hpb : PassB y σ (σ.less y) pb) (hP : cxc.P = cx.P) (hwe : cxc.we = w) (hw0 : cxc.w0 = view cx γ σ y w) (hL : cxc.L = lentL γ y pb) (hLF : cxc.LF = LentF γ σ y)
    (hs' : OSim cxc γc (look qt) (look qb) w') (hqb : ∀ b, (look pb b).isSome = true → (look qb b).isSome = true)
    (hgv : ∀ c n, (c, n) ∈ y.rt → c < 1000 ∨ look qt c = none)
    (hct : ∀ t, (look pt t).isSome = true → t < 1000 → (γc.tl t ↔ (γ.cee σ y).tl t) ∧ ((γ.cee σ y).tl t → γc.tv t = (γ.cee σ y).tv t ∧ ∀ tk, look qt t = some tk → tk.gen = 0 → γc.hv t 0 = (γ.cee σ y).hv t 0))
    (hcb : ∀ b, (look pb b).isSome = true → (γc.bl b ↔ (γ.cee σ y).bl b) ∧ ((γ.cee σ y).bl b → γc.bb b = (γ.cee σ y).bb b ∧ γc.bo b = (γ.cee σ y).bo b)) :
    Gh.Ext γ (γ.aft γc σ y) ∧ OSim cx (γ.aft γc σ y) (σ.after y qt qb).T (σ.after y qt qb).B w' ∧ (∀ a v, VSim cxc.w0 γc a v → VSim cx.w0 (γ.aft γc σ y) (bak y a) v) ∧
    (∀ t, (γ.aft γc σ y).tl t → (look (σ.after y qt qb).t t).isSome = true) ∧ (∀ b, (γ.aft γc σ y).bl b → (look (σ.after y qt qb).b b).isSome = true) ∧
    (∀ k, k < w.heap.size → ¬ LentS γ σ y k → w'.heap[k]? = w.heap[k]?) := by
  subst hwe
  generalize hγ' : γ.aft γc σ y = γ'
  -- numbers
  have ntl : ∀ {n c}, inv y.nt n = some c → ¬ γ.tl n ∧ look pt c = none ∧ look σ.t n = none := fun {n c} h => by
    obtain ⟨h1, h2⟩ := ho.nt c n (inv_mem h)
    exact ⟨fun h3 => (by have := htd n h3; rw [h2] at this; exact absurd this (by simp)), h1, h2⟩
  have nbl : ∀ {n c}, inv y.nb n = some c → ¬ γ.bl n ∧ look pb c = none ∧ look σ.b n = none := fun {n c} h => by
    obtain ⟨h1, h2⟩ := ho.nb c n (inv_mem h)
    exact ⟨fun h3 => (by have := hbd n h3; rw [h2] at this; exact absurd this (by simp)), h1, h2⟩
  have rtn : ∀ {n c}, inv y.rt n = some c → inv y.nt n = none := fun {n c} h => by
    cases h' : inv y.nt n with
    | none => rfl
    | some c' =>
      exfalso
      have hn := ho.nt2
      rw [List.map_append, List.nodup_append] at hn
      exact hn.2.2 n (List.mem_map.2 ⟨_, inv_mem h, rfl⟩) n (List.mem_map.2 ⟨_, inv_mem h', rfl⟩) rfl
  have rbn : ∀ {n q}, invB y.rb n = some q → inv y.nb n = none := fun {n q} h => by
    cases h' : inv y.nb n with
    | none => rfl
    | some c' =>
      exfalso
      have hn := ho.nb2
      rw [List.nodup_append] at hn
      exact hn.2.2 n (List.mem_map.2 ⟨_, invB_mem (c := q.1) (k := q.2) h, rfl⟩) n (List.mem_map.2 ⟨_, inv_mem h', rfl⟩) rfl
  have rtc : ∀ {n c}, inv y.rt n = some c → look y.rt c = some n ∧ (look pt c).isSome = true := fun {n c} h => ⟨ho.tlook.2 (inv_mem h), ho.rt c n (inv_mem h)⟩
  have rbc : ∀ {n b k}, invB y.rb n = some (b, k) → look y.rb b = some (n, k) ∧ (look pb b).isSome = true := fun {n b k} h => ⟨ho.blook.2 (invB_mem h), ho.rb b n k (invB_mem h)⟩
  have ceeT : ∀ {n c}, inv y.rt n = some c → c < 1000 → γ.tl n → (γ.cee σ y).tl c ∧ γc.tl c ∧ γc.tv c = γ.tv n := fun {n c} h hc hl => by
    obtain ⟨h1, h2⟩ := rtc h
    have h3 : (γ.cee σ y).tl c := ⟨n, h1, hl⟩
    obtain ⟨h4, h5⟩ := hct c h2 hc
    refine ⟨h3, h4.2 h3, (h5 h3).1.trans ?_⟩
    show γ.tv (y.m c) = _
    rw [m_eq h1]
  have ceeB : ∀ {n b k}, invB y.rb n = some (b, k) → γ.bl n → γc.bl b ∧ γc.bb b = γ.bb n ∧ γc.bo b = γ.bo n + k := fun {n b k} h hl => by
    obtain ⟨h1, h2⟩ := rbc h
    have h3 : (γ.cee σ y).bl b := ⟨(n, k), h1, hl⟩
    obtain ⟨h4, h5⟩ := hcb b h2
    refine ⟨h4.2 h3, (h5 h3).1.trans ?_, (h5 h3).2.trans ?_⟩
    · show γ.bb (y.mb b).1 = _; rw [mb_eq h1]
    · show γ.bo (y.mb b).1 + (y.mb b).2 = _; rw [mb_eq h1]
  -- the ghost
  have etl : ∀ n, γ'.tl n ↔ (γ.tl n ∨ ∃ c, inv y.nt n = some c ∧ γc.tl c) := fun n => by rw [← hγ']; exact Iff.rfl
  have ebl : ∀ n, γ'.bl n ↔ (γ.bl n ∨ ∃ c, inv y.nb n = some c ∧ γc.bl c) := fun n => by rw [← hγ']; exact Iff.rfl
  have etv1 : ∀ {n c}, inv y.nt n = some c → γ'.tv n = γc.tv c := fun {n c} h => by rw [← hγ']; unfold Gh.aft; simp only [h]
  have etv0 : ∀ {n}, inv y.nt n = none → γ'.tv n = γ.tv n := fun {n} h => by rw [← hγ']; unfold Gh.aft; simp only [h]
  have etf2 : ∀ {n c}, inv y.rt n = some c → γ'.tf n = γc.tf c := fun {n c} h => by rw [← hγ']; unfold Gh.aft; simp only [h]
  have etf1 : ∀ {n c}, inv y.rt n = none → inv y.nt n = some c → γ'.tf n = γc.tf c := fun {n c} h h' => by rw [← hγ']; unfold Gh.aft; simp only [h, h']
  have etf0 : ∀ {n}, inv y.rt n = none → inv y.nt n = none → γ'.tf n = γ.tf n := fun {n} h h' => by rw [← hγ']; unfold Gh.aft; simp only [h, h']
  have ebb1 : ∀ {n c}, inv y.nb n = some c → γ'.bb n = γc.bb c ∧ γ'.bo n = γc.bo c := fun {n c} h => by rw [← hγ']; unfold Gh.aft; simp only [h, and_self]
  have ebb0 : ∀ {n}, inv y.nb n = none → γ'.bb n = γ.bb n ∧ γ'.bo n = γ.bo n := fun {n} h => by rw [← hγ']; unfold Gh.aft; simp only [h, and_self]
  have egl2 : ∀ {n c}, inv y.rt n = some c → ∀ g, γ'.gl n g ↔ (γ.gl n g ∨ ∃ k, γc.gl c k ∧ g = genOf σ n + k) := fun {n c} h g => by rw [← hγ']; unfold Gh.aft; simp only [h]
  have egl1 : ∀ {n c}, inv y.rt n = none → inv y.nt n = some c → ∀ g, γ'.gl n g ↔ γc.gl c g := fun {n c} h h' g => by rw [← hγ']; unfold Gh.aft; simp only [h, h']
  have egl0 : ∀ {n}, inv y.rt n = none → inv y.nt n = none → ∀ g, γ'.gl n g ↔ γ.gl n g := fun {n} h h' g => by rw [← hγ']; unfold Gh.aft; simp only [h, h']
  have ehv2 : ∀ {n c}, inv y.rt n = some c → ∀ g, (γ.tl n ∧ γ.gl n g → γ'.hv n g = γ.hv n g) ∧ (¬ (γ.tl n ∧ γ.gl n g) → γ'.hv n g = γc.hv c (g - genOf σ n)) := fun {n c} h g => by
    rw [← hγ']; unfold Gh.aft; simp only [h]
    exact ⟨fun h => by rw [if_pos h], fun h => by rw [if_neg h]⟩
  have ehv1 : ∀ {n c}, inv y.rt n = none → inv y.nt n = some c → ∀ g, γ'.hv n g = γc.hv c g := fun {n c} h h' g => by rw [← hγ']; unfold Gh.aft; simp only [h, h']
  have ehv0 : ∀ {n}, inv y.rt n = none → inv y.nt n = none → ∀ g, γ'.hv n g = γ.hv n g := fun {n} h h' g => by rw [← hγ']; unfold Gh.aft; simp only [h, h']
  have hext : Gh.Ext γ γ' := by
    refine ⟨fun t h => (etl t).2 (.inl h), fun t h => ?_, fun b h => (ebl b).2 (.inl h), fun b h => ?_, fun b h => ?_, fun t g h k => ?_, fun t g h k => ?_⟩
    · refine etv0 ?_
      cases hi : inv y.nt t with
      | none => rfl
      | some c => exact absurd h (ntl hi).1
    · refine (ebb0 ?_).1
      cases hi : inv y.nb b with
      | none => rfl
      | some c => exact absurd h (nbl hi).1
    · refine (ebb0 ?_).2
      cases hi : inv y.nb b with
      | none => rfl
      | some c => exact absurd h (nbl hi).1
    · cases hi : inv y.rt t with
      | some c => exact (egl2 hi g).2 (.inl k)
      | none =>
        cases hj : inv y.nt t with
        | some c => exact absurd h (ntl hj).1
        | none => exact (egl0 hi hj g).2 k
    · cases hi : inv y.rt t with
      | some c => exact (ehv2 hi g).1 ⟨h, k⟩
      | none =>
        cases hj : inv y.nt t with
        | some c => exact absurd h (ntl hj).1
        | none => exact ehv0 hi hj g
  -- the tables
  have eT : ∀ n, (σ.after y qt qb).T n = match inv y.rt n with
      | some c => (look qt c).map fun tk => ⟨tk.rows, tk.sz, genOf σ n + tk.gen⟩
      | none => match inv y.nt n with
        | some c => look qt c
        | none => σ.T n := fun n => by
    show (look (backT σ qt y.rt (newT qt y.nt σ.t)) n).join = _
    rw [backT_look]
    cases inv y.rt n with
    | some c => rfl
    | none =>
      simp only [newT_look]
      cases inv y.nt n with
      | some c => rfl
      | none => rfl
  have eB : ∀ n, (σ.after y qt qb).B n = match invB y.rb n with
      | some q => (look qb q.1).bind fun vs => (σ.B n).map fun ws => splice ws q.2 (baks y vs)
      | none => match inv y.nb n with
        | some c => (look qb c).map (baks y)
        | none => σ.B n := fun n => by
    show (look (backB σ y qb y.rb (newB y qb y.nb σ.b)) n).join = _
    rw [backB_look]
    cases invB y.rb n with
    | some c => rfl
    | none =>
      simp only [newB_look]
      cases inv y.nb n with
      | some c => rfl
      | none => rfl
  have clsT : ∀ n tk, γ'.tl n → (σ.after y qt qb).T n = some tk → (∃ c tkc, CTok γ γ' γc y qt n tk c tkc) ∨ OTok γ γ' σ y n tk := fun n tk hl hT => by
    rw [eT] at hT
    cases hi : inv y.rt n with
    | some c =>
      simp only [hi] at hT
      have hj := rtn hi
      have hl0 : γ.tl n := by
        rcases (etl n).1 hl with h | ⟨c', h, -⟩
        · exact h
        · rw [hj] at h; cases h
      cases hq : look qt c with
      | none => rw [hq] at hT; cases hT
      | some tkc =>
        have hc : c < 1000 := (hgv c n (inv_mem hi)).resolve_right (by rw [hq]; simp)
        obtain ⟨-, h2, h3⟩ := ceeT hi hc hl0
        rw [hq] at hT
        simp only [Option.map_some, Option.some.injEq] at hT
        subst hT
        exact .inl ⟨c, tkc, by rw [inv_append, hi]; rfl, h2, hq, rfl, rfl, by rw [etv0 hj, h3], etf2 hi⟩
    | none =>
      simp only [hi] at hT
      cases hj : inv y.nt n with
      | some c =>
        simp only [hj] at hT
        have hlc : γc.tl c := by
          rcases (etl n).1 hl with h | ⟨c', h, h'⟩
          · exact absurd h (ntl hj).1
          · rw [hj] at h; cases h; exact h'
        exact .inl ⟨c, tk, by rw [inv_append, hi, hj]; rfl, hlc, hT, rfl, rfl, etv1 hj, etf1 hi hj⟩
      | none =>
        simp only [hj] at hT
        have hl0 : γ.tl n := by
          rcases (etl n).1 hl with h | ⟨c', h, -⟩
          · exact h
          · rw [hj] at h; cases h
        exact .inr ⟨by rw [inv_append, hi, hj]; rfl, hl0, hT, etv0 hj, etf0 hi hj⟩
  have clsB : ∀ n us, γ'.bl n → (σ.after y qt qb).B n = some us → (∃ b k ws vs, LBox γ γ' γc σ y qb n us b k ws vs) ∨ (∃ c vs, NBox γ γ' γc y qb n us c vs) ∨ OBox γ γ' σ y n us := fun n us hl hB => by
    rw [eB] at hB
    cases hi : invB y.rb n with
    | some q =>
      obtain ⟨b, k⟩ := q
      simp only [hi] at hB
      have hj := rbn hi
      have hl0 : γ.bl n := by
        rcases (ebl n).1 hl with h | ⟨c', h, -⟩
        · exact h
        · rw [hj] at h; cases h
      obtain ⟨h1, h2, h3⟩ := ceeB hi hl0
      cases hq : look qb b with
      | none => rw [hq] at hB; cases hB
      | some vs =>
        rw [hq] at hB
        simp only [Option.bind_some] at hB
        cases hw : σ.B n with
        | none => rw [hw] at hB; cases hB
        | some ws =>
          rw [hw] at hB
          simp only [Option.map_some, Option.some.injEq] at hB
          exact .inl ⟨b, k, ws, vs, hi, hl0, h1, hq, hw, hB.symm, (ebb0 hj).1, (ebb0 hj).2, h2, h3⟩
    | none =>
      simp only [hi] at hB
      cases hj : inv y.nb n with
      | some c =>
        simp only [hj] at hB
        have hlc : γc.bl c := by
          rcases (ebl n).1 hl with h | ⟨c', h, h'⟩
          · exact absurd h (nbl hj).1
          · rw [hj] at h; cases h; exact h'
        cases hq : look qb c with
        | none => rw [hq] at hB; cases hB
        | some vs =>
          rw [hq] at hB
          simp only [Option.map_some, Option.some.injEq] at hB
          exact .inr (.inl ⟨c, vs, hj, hlc, hq, hB.symm, (ebb1 hj).1, (ebb1 hj).2⟩)
      | none =>
        simp only [hj] at hB
        have hl0 : γ.bl n := by
          rcases (ebl n).1 hl with h | ⟨c', h, -⟩
          · exact h
          · rw [hj] at h; cases h
        exact .inr (.inr ⟨hi, hj, hl0, hB, (ebb0 hj).1, (ebb0 hj).2⟩)
  -- memory
  have hsame : ∀ k, k < cxc.we.heap.size → ¬ LentS γ σ y k → w'.heap[k]? = cxc.we.heap[k]? := fun k hk hn => by
    refine hs'.frm.block k hk (fun h => hn (.inl (by rw [hLF] at h; exact h))) fun x hx e => hn ?_
    rw [hL] at hx
    obtain ⟨b, n, j, h1, h2, rfl⟩ := mem_lentL.1 hx
    exact .inr ⟨b, n, j, h1, h2, e.symm⟩
  have ctf : ∀ {c tkc}, γc.tl c → look qt c = some tkc → ∀ g ∈ γc.tf c, cxc.we.heap.size ≤ g ∨ (LentF γ σ y g) := fun h1 h2 g hg => by
    rcases hs'.tfr _ _ h1 h2 g hg with h | h
    · exact .inl h
    · rw [hLF] at h; exact .inr h.1
  have oT : ∀ {n tk}, OTok γ γ' σ y n tk → ∀ g ∈ γ.tf n, g < cxc.we.heap.size ∧ ¬ LentS γ σ y g := fun {n tk} h g hg => by
    refine ⟨(hs.tok n tk h.tl h.T).lt g hg, less_tok hs ho hpb h.tl (tk := tk) ?_ g hg⟩
    have hi := h.i
    rw [inv_append] at hi
    cases hr : inv y.rt n with
    | some c => rw [hr] at hi; cases hi
    | none =>
      show (look (goneT y.rt σ.t) n).join = _
      rw [goneT_look, hr]
      exact h.T
  have oB : ∀ {n us}, OBox γ γ' σ y n us → γ.bb n < cxc.we.heap.size ∧ ¬ LentS γ σ y (γ.bb n) := fun {n us} h => by
    obtain ⟨us', -, h3⟩ := hs.box n us h.bl h.B
    refine ⟨h3.lt, less_box hs ho hpb h.bl (us := us) ?_⟩
    show (look (goneB y.rb σ.b) n).join = _
    rw [goneB_look, h.i]
    exact h.B
  have lB : ∀ {n us b k ws vs}, LBox γ γ' γc σ y qb n us b k ws vs → LentS γ σ y (γ.bb n) := fun {n us b k ws vs} h => .inr ⟨b, n, k, invB_mem h.i, h.bl, rfl⟩
  have nB : ∀ {n us c vs}, NBox γ γ' γc y qb n us c vs → cxc.we.heap.size ≤ γc.bb c := fun {n us c vs} h => by
    rcases hs'.bfr c vs h.bc h.q with h' | ⟨-, x, hx, he, -⟩
    · exact h'
    · exfalso
      rw [hL] at hx
      obtain ⟨b, m, k, h1, h2, rfl⟩ := mem_lentL.1 hx
      have hib := invB_of_mem ho.b2 h1
      obtain ⟨k1, k2, -⟩ := ceeB hib h2
      obtain ⟨vs', hvs'⟩ := look_isSome (hqb b (rbc hib).2)
      have hne : c ≠ b := by
        rintro rfl
        have h4 := (nbl h.i).2.1
        have h5 := (rbc hib).2
        rw [h4] at h5; cases h5
      exact hs'.bds c b vs vs' hne h.bc k1 h.q hvs' (by rw [k2]; exact he.symm)
  have cne : ∀ {n n' tk tk' c c' t t'}, n ≠ n' → CTok γ γ' γc y qt n tk c t → CTok γ γ' γc y qt n' tk' c' t' → c ≠ c' := fun {n n' tk tk' c c' t t'} hne h h' e => by
    subst e
    exact hne (nodup_fst ho.nt1 (inv_mem h.i) (inv_mem h'.i))
  -- the box clauses' numbers
  have hfrm : Frm cx w' := by
    refine ⟨by have := hs'.frm.sh; rw [hP] at this; exact this, hs'.frm.os.trans hs.frm.os, hs'.frm.tape.trans hs.frm.tape, hs'.frm.output.trans hs.frm.output, Nat.le_trans hs.frm.size hs'.frm.size, fun k hk h1 h2 => ?_, fun x hx => ?_⟩
    · rw [hsame k (Nat.lt_of_lt_of_le hk hs.frm.size) fun h => ?_]
      · exact hs.frm.block k hk h1 h2
      · rcases lentS_fr hs ho hpb h with h | h | ⟨x, hx, h⟩
        · omega
        · exact h1 h
        · exact h2 x hx h
    · obtain ⟨cs, cs', e, h1, h2, h3, h4⟩ := hs.frm.lent x hx
      by_cases hl : LentS γ σ y x.1
      · rcases hl with ⟨c, n, tk, k1, k2, k3, k4⟩ | ⟨b, n, k, k1, k2, k3⟩
        · rcases hs.tfr n tk k2 k3 x.1 k4 with h | h
          · have := lt_of_block h1; omega
          · exact absurd rfl (h.2 x hx)
        · have hib := invB_of_mem ho.b2 k1
          obtain ⟨vs, hvs⟩ := look_isSome (rbc hib).2
          obtain ⟨q, hq, ws, hws, hle, -⟩ := passB_spec hpb hvs
          rw [(rbc hib).1] at hq; cases hq
          obtain ⟨c1, c2, e', j1, j2, j3, j4⟩ := hs'.frm.lent (γ.bb n, γ.bo n + k, ((look pb b).map List.length).getD 0) (by rw [hL]; exact mem_lentL.2 ⟨b, n, k, k1, k2, rfl⟩)
          simp only at j1 j2 j4
          rw [← k3, h2] at j1
          simp only [Option.some.injEq, Obj.cells.injEq, and_true] at j1
          obtain ⟨rfl, rfl⟩ := j1
          rcases hs.bfr n ws k2 hws with h | ⟨-, z, hz, z1, z2, z3, z4⟩
          · have := lt_of_block h1; omega
          · have hxz := z4 x hx k3
            subst hxz
            refine ⟨cs, c2, e, h1, by rw [k3]; exact j2, by omega, fun o hoo => ?_⟩
            rw [j4 o ?_, h4 o hoo]
            rw [hvs]
            simp only [Option.map_some, Option.getD_some]
            simp only at hle
            omega
      · exact ⟨cs, cs', e, h1, by rw [hsame x.1 (lt_of_block h2) hl]; exact h2, h3, h4⟩
  have ht_ : ∀ c n, look (kept y.rt ++ y.nt) c = some n → γc.tl c → γ'.tl n ∧ γ'.tv n = γc.tv c := fun c n h hl => by
    have hmem : (c, n) ∈ y.rt ++ y.nt ∧ ((c, n) ∈ y.rt → c < 1000) := by
      rcases List.mem_append.1 (mem_of_look h) with h | h
      · obtain ⟨h1, h2⟩ := kept_mem h
        exact ⟨List.mem_append.2 (.inl h1), fun _ => h2⟩
      · refine ⟨List.mem_append.2 (.inr h), fun h' => ?_⟩
        have h3 := (ho.nt c n h).1
        have h4 := ho.rt c n h'
        rw [h3] at h4; cases h4
    have hi := inv_of_mem ho.nt2 hmem.1
    rw [inv_append] at hi
    cases hr : inv y.rt n with
    | some c' =>
      rw [hr] at hi
      simp only [Option.some_or, Option.some.injEq] at hi
      subst hi
      have hc := hmem.2 (inv_mem hr)
      obtain ⟨n0, h1, h2⟩ := (hct _ (rtc hr).2 hc).1.1 hl
      rw [(rtc hr).1] at h1; cases h1
      exact ⟨(etl n).2 (.inl h2), by rw [etv0 (rtn hr), (ceeT hr hc h2).2.2]⟩
    | none =>
      rw [hr] at hi
      simp only [Option.none_or] at hi
      exact ⟨(etl n).2 (.inr ⟨c, hi, hl⟩), etv1 hi⟩
  have hb_ : ∀ b q, look y.rb b = some q → γc.bl b → γ'.bl q.1 ∧ γc.bb b = γ'.bb q.1 ∧ γc.bo b = γ'.bo q.1 + q.2 := fun b q h hl => by
    obtain ⟨n, k⟩ := q
    have hi := invB_of_mem ho.b2 (ho.blook.1 h)
    obtain ⟨q', h1, h2⟩ := (hcb _ (rbc hi).2).1.1 hl
    rw [h] at h1; cases h1
    obtain ⟨-, h3, h4⟩ := ceeB hi h2
    obtain ⟨h5, h6⟩ := ebb0 (rbn hi)
    exact ⟨(ebl n).2 (.inl h2), by rw [h3, h5], by rw [h4, h6]⟩
  have hnb2 : (y.nb.map (·.2)).Nodup := (List.nodup_append.1 ho.nb2).2.1
  have hnb1 : (y.nb.map (·.1)).Nodup := (List.nodup_append.1 ho.nb1).2.1
  have hn_ : ∀ b n, look y.nb b = some n → γc.bl b → γ'.bl n ∧ γ'.bb n = γc.bb b ∧ γ'.bo n = γc.bo b := fun b n h hl => by
    have hi := inv_of_mem hnb2 (mem_of_look h)
    exact ⟨(ebl n).2 (.inr ⟨b, hi, hl⟩), (ebb1 hi).1, (ebb1 hi).2⟩
  have hm_ : y.md = true → cxc.w0 = cx.w0 := fun h => by rw [hw0]; unfold view; rw [h]
  have hbak : ∀ a v, VSim cxc.w0 γc a v → VSim cx.w0 γ' (bak y a) v := fun a v h => bak_sound ht_ hb_ hn_ hm_ h
  refine ⟨hext, ⟨hfrm, fun n tk h1 h2 => ?_, fun n tk h1 h2 => ?_, fun n n' tk tk' hne h1 h1' h2 h2' g hg => ?_, fun n us h1 h2 => ?_, fun n n' us us' hne h1 h1' h2 h2' => ?_, fun n t us tk h1 h1' h2 h2' => ?_, fun n tk h1 h2 g hg => ?_, fun n us h1 h2 => ?_, fun n tk h1 h2 => ?_, hs.beg.trans hext⟩, hbak, fun t h => ?_, fun b h => ?_, hsame⟩
  · rcases clsT n tk h1 h2 with ⟨c, tkc, h⟩ | h
    · rw [h.tv, h.tf]
      exact (hs'.tok c tkc h.tl h.q).as h.r (.inr h.z)
    · rw [h.tv, h.tf]
      exact (hs.tok n tk h.tl h.T).keep fun g hg => hsame g (oT h g hg).1 (oT h g hg).2
  · rcases clsT n tk h1 h2 with ⟨c, tkc, h⟩ | h
    · rw [h.tf]; exact hs'.tnd c tkc h.tl h.q
    · rw [h.tf]; exact hs.tnd n tk h.tl h.T
  · rcases clsT n tk h1 h2 with ⟨c, tkc, h⟩ | h <;> rcases clsT n' tk' h1' h2' with ⟨c', tkc', h'⟩ | h'
    · rw [h.tf] at hg; rw [h'.tf]
      exact hs'.tds c c' tkc tkc' (cne hne h h') h.tl h'.tl h.q h'.q g hg
    · rw [h.tf] at hg; rw [h'.tf]
      intro hm
      obtain ⟨m1, m2⟩ := oT h' g hm
      rcases ctf h.tl h.q g hg with h3 | h3
      · omega
      · exact m2 (.inl h3)
    · rw [h.tf] at hg; rw [h'.tf]
      intro hm
      obtain ⟨m1, m2⟩ := oT h g hg
      rcases ctf h'.tl h'.q g hm with h3 | h3
      · omega
      · exact m2 (.inl h3)
    · rw [h.tf] at hg; rw [h'.tf]
      exact hs.tds n n' tk tk' hne h.tl h'.tl h.T h'.T g hg
  · rcases clsB n us h1 h2 with ⟨b, k, ws, vs, h⟩ | ⟨c, vs, h⟩ | h
    · obtain ⟨us2, k1, cs2, e2, k2, k3⟩ := hs'.box b vs h.bc h.q
      obtain ⟨us1, j1, cs1, e1, j2, j3⟩ := hs.box n ws h.bl h.B
      have hlx : (γ.bb n, γ.bo n + k, ((look pb b).map List.length).getD 0) ∈ cxc.L := by rw [hL]; exact mem_lentL.2 ⟨b, n, k, invB_mem h.i, h.bl, rfl⟩
      obtain ⟨c1, c2, e', l1, l2, l3, l4⟩ := hs'.frm.lent _ hlx
      simp only at l1 l2 l4
      rw [j2] at l1
      simp only [Option.some.injEq, Obj.cells.injEq, and_true] at l1
      obtain ⟨rfl, rfl⟩ := l1
      rw [h.cb, l2] at k2
      simp only [Option.some.injEq, Obj.cells.injEq, and_true] at k2
      obtain ⟨rfl, rfl⟩ := k2
      have hvl : vs.length = ((look pb b).map List.length).getD 0 := by
        rcases hs'.bfr b vs h.bc h.q with h' | ⟨-, x, hx, x1, x2, x3, x4⟩
        · rw [h.cb] at h'
          have := lt_of_block j2; omega
        · have := x4 _ hlx (by rw [h.cb])
          rw [← this] at x3
          exact x3.symm
      obtain ⟨vs0, hvs0⟩ := look_isSome (rbc h.i).2
      obtain ⟨q, hq, ws0, hws0, hle, -⟩ := passB_spec hpb hvs0
      rw [(rbc h.i).1] at hq; cases hq
      have hws1 : some ws0 = some ws := by rw [← hws0, ← h.B]
      cases hws1
      rw [hvs0] at hvl l4
      simp only [Option.map_some, Option.getD_some] at hvl l4
      simp only at hle
      have hu1 := j1.length
      have hu2 := k1.length
      rw [h.bb, h.bo, h.e]
      refine ⟨splice us1 k us2, VSims.splice (VSims.mono (Keeps.refl _) hext j1) (baks_sound ht_ hb_ hn_ hm_ k1), c2, e1, l2, fun j hj => ?_⟩
      rw [splice_len] at hj
      rw [splice_eq _ _ _ (by omega), ← List.append_assoc, mid_cells (by omega)]
      rw [h.co] at k3
      by_cases p1 : j < k
      · rw [if_pos p1, l4 _ (by omega)]; exact j3 j hj
      · rw [if_neg p1]
        by_cases p2 : j < k + us2.length
        · rw [if_pos p2, ← k3 (j - k) (by omega)]
          congr 1; omega
        · rw [if_neg p2, l4 _ (by omega)]; exact j3 j hj
    · obtain ⟨us', k1, k2⟩ := hs'.box c vs h.bc h.q
      rw [h.bb, h.bo, h.e]
      exact ⟨us', baks_sound ht_ hb_ hn_ hm_ k1, k2⟩
    · obtain ⟨us', k1, k2⟩ := hs.box n us h.bl h.B
      rw [h.bb, h.bo]
      exact ⟨us', VSims.mono (Keeps.refl _) hext k1, k2.keep (hsame _ (oB h).1 (oB h).2)⟩
  · rcases clsB n us h1 h2 with ⟨b, k, ws, vs, h⟩ | ⟨c, vs, h⟩ | h <;> rcases clsB n' us' h1' h2' with ⟨b', k', ws', vs', h'⟩ | ⟨c', vs', h'⟩ | h'
    · rw [h.bb, h'.bb]; exact hs.bds n n' ws ws' hne h.bl h'.bl h.B h'.B
    · rw [h.bb, h'.bb]
      have m1 := nB h'
      have m2 := lentS_lt hs ho hpb (lB h)
      omega
    · rw [h.bb, h'.bb]
      intro e
      have m1 := lB h
      rw [e] at m1
      exact (oB h').2 m1
    · rw [h.bb, h'.bb]
      have m1 := nB h
      have m2 := lentS_lt hs ho hpb (lB h')
      omega
    · rw [h.bb, h'.bb]
      refine hs'.bds c c' vs vs' ?_ h.bc h'.bc h.q h'.q
      rintro rfl
      exact hne (nodup_fst hnb1 (inv_mem h.i) (inv_mem h'.i))
    · rw [h.bb, h'.bb]
      have m1 := nB h
      have m2 := (oB h').1
      omega
    · rw [h.bb, h'.bb]
      intro e
      have m1 := lB h'
      rw [← e] at m1
      exact (oB h).2 m1
    · rw [h.bb, h'.bb]
      have m1 := nB h'
      have m2 := (oB h).1
      omega
    · rw [h.bb, h'.bb]; exact hs.bds n n' us us' hne h.bl h'.bl h.B h'.B
  · rcases clsB n us h1 h2 with ⟨b, k, ws, vs, h⟩ | ⟨c, vs, h⟩ | h <;> rcases clsT t tk h1' h2' with ⟨c', tkc', h'⟩ | h'
    · rw [h.bb, h'.tf, ← h.cb]; exact hs'.btd b c' vs tkc' h.bc h'.tl h.q h'.q
    · rw [h.bb, h'.tf]; exact hs.btd n t ws tk h.bl h'.tl h.B h'.T
    · rw [h.bb, h'.tf]; exact hs'.btd c c' vs tkc' h.bc h'.tl h.q h'.q
    · rw [h.bb, h'.tf]
      intro hm
      have m1 := nB h
      have m2 := (oT h' _ hm).1
      omega
    · rw [h.bb, h'.tf]
      intro hm
      rcases ctf h'.tl h'.q _ hm with h3 | h3
      · have := (oB h).1; omega
      · exact (oB h).2 (.inl h3)
    · rw [h.bb, h'.tf]; exact hs.btd n t us tk h.bl h'.tl h.B h'.T
  · rcases clsT n tk h1 h2 with ⟨c, tkc, h⟩ | h
    · rw [h.tf] at hg
      rcases ctf h.tl h.q g hg with h3 | ⟨c', m, tk', j1, j2, j3, j4⟩
      · exact .inl (Nat.le_trans hs.frm.size h3)
      · exact hs.tfr m tk' j2 j3 g j4
    · rw [h.tf] at hg; exact hs.tfr n tk h.tl h.T g hg
  · rcases clsB n us h1 h2 with ⟨b, k, ws, vs, h⟩ | ⟨c, vs, h⟩ | h
    · rw [h.bb, h.bo, h.e, splice_len]; exact hs.bfr n ws h.bl h.B
    · rw [h.bb]; exact .inl (Nat.le_trans hs.frm.size (nB h))
    · rw [h.bb, h.bo]; exact hs.bfr n us h.bl h.B
  · rw [eT] at h2
    cases hi : inv y.rt n with
    | some c =>
      simp only [hi] at h2
      have hj := rtn hi
      have hl0 : γ.tl n := by
        rcases (etl n).1 h1 with h | ⟨c', h, -⟩
        · exact h
        · rw [hj] at h; cases h
      cases hq : look qt c with
      | none => rw [hq] at h2; cases h2
      | some tkc =>
        have hc : c < 1000 := (hgv c n (inv_mem hi)).resolve_right (by rw [hq]; simp)
        obtain ⟨-, k2, k3⟩ := ceeT hi hc hl0
        rw [hq] at h2
        simp only [Option.map_some, Option.some.injEq] at h2
        subst h2
        have hh := hs'.hds c tkc k2 hq
        obtain ⟨tk0, htk0⟩ := look_isSome (rtc hi).2
        obtain ⟨n', hn', -, tk1, hT1, -⟩ := passT_spec hpt htk0
        rw [(rtc hi).1] at hn'; cases hn'
        have hg0 : genOf σ n = tk1.gen := by unfold genOf; rw [hT1]; rfl
        have hh1 := hs.hds n tk1 hl0 hT1
        refine ⟨(egl2 hi _).2 (.inr ⟨tkc.gen, hh.1, rfl⟩), fun g hg => ?_, fun q r hq' => ?_⟩
        · rcases (egl2 hi g).1 hg with h | ⟨k, h, rfl⟩
          · have := hh1.2.1 g h
            simp only
            omega
          · have := hh.2.1 k h
            simp only
            omega
        · have e1 := hh.2.2 q r hq'
          rw [etv0 hj, ← k3, e1]
          show γc.hv c tkc.gen q = γ'.hv n (genOf σ n + tkc.gen) q
          by_cases hz : tkc.gen = 0
          · rw [hz, Nat.add_zero, ((ehv2 hi _).1 ⟨hl0, by rw [hg0]; exact hh1.1⟩)]
            rw [((hct c (rtc hi).2 hc).2 ⟨n, (rtc hi).1, hl0⟩).2 tkc hq hz]
            show γ.hv (y.m c) (genOf σ (y.m c)) q = _
            rw [m_eq (rtc hi).1]
          · rw [(ehv2 hi _).2 fun h => ?_, Nat.add_sub_cancel_left]
            have := hh1.2.1 _ h.2
            omega
    | none =>
      simp only [hi] at h2
      cases hj : inv y.nt n with
      | some c =>
        simp only [hj] at h2
        have hlc : γc.tl c := by
          rcases (etl n).1 h1 with h | ⟨c', h, h'⟩
          · exact absurd h (ntl hj).1
          · rw [hj] at h; cases h; exact h'
        have hh := hs'.hds c tk hlc h2
        exact ⟨(egl1 hi hj _).2 hh.1, fun g hg => hh.2.1 g ((egl1 hi hj g).1 hg), fun q r hq => by rw [etv1 hj, ehv1 hi hj]; exact hh.2.2 q r hq⟩
      | none =>
        simp only [hj] at h2
        have hl0 : γ.tl n := by
          rcases (etl n).1 h1 with h | ⟨c', h, -⟩
          · exact h
          · rw [hj] at h; cases h
        have ho' : OTok γ γ' σ y n tk := ⟨by rw [inv_append, hi, hj]; rfl, hl0, h2, etv0 hj, etf0 hi hj⟩
        have hh := (hs.hds n tk hl0 h2).keep (hs.tok n tk hl0 h2).own fun g hg => hsame g (oT ho' g hg).1 (oT ho' g hg).2
        exact ⟨(egl0 hi hj _).2 hh.1, fun g hg => hh.2.1 g ((egl0 hi hj g).1 hg), fun q r hq => by rw [etv0 hj, ehv0 hi hj]; exact hh.2.2 q r hq⟩
  · show (look (backT σ qt y.rt (newT qt y.nt σ.t)) t).isSome = true
    rw [backT_look]
    cases hi : inv y.rt t with
    | some c => rfl
    | none =>
      simp only [newT_look]
      cases hj : inv y.nt t with
      | some c => rfl
      | none =>
        rcases (etl t).1 h with h | ⟨c', h, -⟩
        · exact htd t h
        · rw [hj] at h; cases h
  · show (look (backB σ y qb y.rb (newB y qb y.nb σ.b)) b).isSome = true
    rw [backB_look]
    cases hi : invB y.rb b with
    | some c => rfl
    | none =>
      simp only [newB_look]
      cases hj : inv y.nb b with
      | some c => rfl
      | none =>
        rcases (ebl b).1 h with h | ⟨c', h, -⟩
        · exact hbd b h
        · rw [hj] at h; cases h
end
end Go.Proofs.Ytfbnlkaggggmiaa.Ab
