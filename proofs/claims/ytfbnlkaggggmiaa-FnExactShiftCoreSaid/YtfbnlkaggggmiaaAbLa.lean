/-
  The abstract walk: slices within slices become slices of their own, and go back to their places.
-/
import Derived.Test.YtfbnlkaggggmiaaAbL
namespace Go.Proofs.Ytfbnlkaggggmiaa.Ab
set_option linter.unusedVariables false
set_option linter.unusedSimpArgs false
open Go.RowKit

theorem getC_at : ∀ {p : Pth} {rows : List (List D)} {d : D}, getC p rows = some d → At p (.sl rows) d
  | [], rows, d, h => by simp only [getC, Option.some.injEq] at h; simp only [At, h]
  | (sz, i, j) :: p, rows, d, h => by
    rw [getC] at h
    split at h
    · rename_i row hr
      split at h
      · rename_i hl
        split at h
        · rename_i d0 hj
          simp only [At]
          refine ⟨row, d0, hr, hl, hj, ?_⟩
          cases p with
          | nil => simp only [Option.some.injEq] at h; simp only [At, h]
          | cons s p =>
            split at h
            · rename_i he; cases he
            · exact getC_at h
            · cases h
        · cases h
      · cases h
    · cases h
theorem put_sl {p : Pth} (hp : p ≠ []) {rows : List (List D)} {d1 : D} (h : At p (.sl rows) d1) (d : D) : Ab.put p (.sl rows) d = .sl (putR p rows d) ∧ ∃ (i : Nat) (row row' : List D), rows[i]? = some row ∧ (putR p rows d)[i]? = some row' ∧ row'.length = row.length := by
  cases p with
  | nil => exact absurd rfl hp
  | cons s p =>
    obtain ⟨sz, i, j⟩ := s
    simp only [At] at h
    obtain ⟨row, e, h1, h2, h3, h4⟩ := h
    have hput : Ab.put ((sz, i, j) :: p) (.sl rows) d = .sl (rows.set i (row.set j (Ab.put p e d))) := by
      rw [Ab.put, h1]; simp only; rw [h3]
    have e2 : putR ((sz, i, j) :: p) rows d = rows.set i (row.set j (Ab.put p e d)) := by unfold putR; rw [hput]
    refine ⟨by rw [e2]; exact hput, i, row, row.set j (Ab.put p e d), h1, ?_, by simp⟩
    rw [e2, List.getElem?_set_self (lt_of_get h1)]
/-- The same form with another tree at a place. -/
theorem TokOk.put {w w' : World} {tk : Tok} {v : Value} {fp fp' : List Nat} {p : Pth} {d1 d : D} (hp : p ≠ []) (h : TokOk w tk v fp) (ha : At p (.sl tk.rows) d1) (h' : Own w' (Ab.put p (.sl tk.rows) d) v fp') (k : Nat) : TokOk w' ⟨putR p tk.rows d, tk.sz, k⟩ v fp' := by
  obtain ⟨e1, i, row, row', hi, hi', hl⟩ := put_sl hp ha d
  rw [e1] at h'
  unfold TokOk at h ⊢
  split at h
  · rename_i hz
    simp only [hz]
    exact h'
  · rename_i sz hz
    simp only [hz]
    have hsz : row.length = sz := by
      rcases h with ⟨h, -, -⟩ | ⟨g, o, c, te, cs, fps, hv, hn, hc, hb, hlen, hr, rfl⟩
      · rw [h] at hi; simp at hi
      · obtain ⟨a1, a2, a3, rfl, hl, -, -⟩ := OwnR.split i (lt_of_get hi) hr
        rw [List.getElem?_eq_getElem (lt_of_get hi)] at hi
        rw [Option.some.inj hi] at hl
        exact hl
    subst hsz
    rw [← hl]
    exact .inr (h'.row_len hi')

open Classical in
/-- A slice more; the headers under it. -/
noncomputable def Gh.tokH (γ : Gh) (n : Nat) (v : Value) (fp : List Nat) (hv : Pth → Value) : Gh := { γ with
  tl := fun x => γ.tl x ∨ x = n, tv := fun x => if x = n then v else γ.tv x, tf := fun x => if x = n then fp else γ.tf x,
  gl := fun x g => if x = n then g = 0 else γ.gl x g, hv := fun x g => if x = n then hv else γ.hv x g }
theorem Gh.tokH_ext {γ : Gh} {n : Nat} {v : Value} {fp : List Nat} {hv : Pth → Value} (hn : ¬ γ.tl n) : Gh.Ext γ (γ.tokH n v fp hv) :=
  ⟨fun _ h => .inl h, fun x h => by show (if x = n then _ else _) = _; rw [if_neg (fun (e : x = n) => hn (e ▸ h))], fun _ h => h, fun _ _ => rfl, fun _ _ => rfl,
   fun x g h k => by show (if x = n then _ else _); rw [if_neg (fun (e : x = n) => hn (e ▸ h))]; exact k, fun x g h k => by show (if x = n then _ else _) = _; rw [if_neg (fun (e : x = n) => hn (e ▸ h))]⟩
section
variable {cx : Cx} {γ : Gh} {T : Nat → Option Tok} {B : Nat → Option (List AV)} {w w' : World}
theorem OSim.putTokH (hs : OSim cx γ T B w) {n : Nat} {tk : Tok} {v : Value} {fp : List Nat} {hv : Pth → Value} (hT : T n = none) (hnl : ¬ γ.tl n) (h0 : tk.gen = 0) (hok : TokOk w tk v fp) (hn : fp.Nodup) (hf : ∀ g ∈ fp, Free cx γ T B g)
    (hg : ∀ q r, At q (.sl tk.rows) (.sl r) → hdr w v q = hv q) :
    OSim cx (γ.tokH n v fp hv) (fun x => if x = n then some tk else T x) B w := by
  have he := Gh.tokH_ext (v := v) (fp := fp) (hv := hv) hnl
  have htf : ∀ x, (γ.tokH n v fp hv).tf x = if x = n then fp else γ.tf x := fun _ => rfl
  have htv : ∀ x, (γ.tokH n v fp hv).tv x = if x = n then v else γ.tv x := fun _ => rfl
  refine ⟨hs.frm, fun x tk' h1 h2 => ?_, fun x tk' h1 h2 => ?_, fun x y tk1 tk2 hne h1 h2 h3 h4 g hg => ?_, fun b vs h1 h2 => ?_, hs.bds, fun b x vs tk' h1 h2 h3 h4 => ?_, fun x tk' h1 h2 => ?_, hs.bfr, fun x tk' h1 h2 => ?_, hs.beg.trans he⟩
  · rw [htf, htv]
    by_cases hx : x = n
    · simp only [if_pos hx, Option.some.injEq] at h2 ⊢; subst h2; exact hok
    · simp only [if_neg hx] at h2 ⊢; exact hs.tok x tk' (h1.resolve_right hx) h2
  · rw [htf]
    by_cases hx : x = n
    · simp only [if_pos hx] at h2 ⊢; exact hn
    · simp only [if_neg hx] at h2 ⊢; exact hs.tnd x tk' (h1.resolve_right hx) h2
  · rw [htf] at hg ⊢
    by_cases hx : x = n
    · have hy : y ≠ n := fun e => hne (hx.trans e.symm)
      simp only [if_pos hx] at hg
      simp only [if_neg hy] at h4 ⊢
      exact (hf g hg).t y tk2 (h2.resolve_right hy) h4
    · simp only [if_neg hx] at h3 hg
      by_cases hy : y = n
      · simp only [if_pos hy]
        intro hm
        exact (hf g hm).t x tk1 (h1.resolve_right hx) h3 hg
      · simp only [if_neg hy] at h4 ⊢
        exact hs.tds x y tk1 tk2 hne (h1.resolve_right hx) (h2.resolve_right hy) h3 h4 g hg
  · obtain ⟨us, h3, h4⟩ := hs.box b vs h1 h2
    exact ⟨us, VSims.mono (Keeps.refl _) he h3, h4⟩
  · rw [htf]
    by_cases hx : x = n
    · simp only [if_pos hx]
      intro hm
      exact (hf _ hm).b b vs h1 h3 rfl
    · simp only [if_neg hx] at h4 ⊢; exact hs.btd b x vs tk' h1 (h2.resolve_right hx) h3 h4
  · rw [htf]
    by_cases hx : x = n
    · simp only [if_pos hx]; exact fun g hg => (hf g hg).fr
    · simp only [if_neg hx] at h2 ⊢; exact hs.tfr x tk' (h1.resolve_right hx) h2
  · by_cases hx : x = n
    · subst hx
      have h2' : (if x = x then some tk else T x) = some tk' := h2
      rw [if_pos rfl, Option.some.injEq] at h2'; subst h2'
      have e1 : ∀ g, (γ.tokH x v fp hv).gl x g = (g = 0) := fun g => by show (if x = x then _ else _) = _; rw [if_pos rfl]
      have e2 : ∀ g, (γ.tokH x v fp hv).hv x g = hv := fun g => by show (if x = x then _ else _) = _; rw [if_pos rfl]
      refine ⟨by rw [e1]; exact h0, fun g hg => by rw [e1] at hg; omega, fun q r hq => ?_⟩
      rw [htv, if_pos rfl, e2]
      exact hg q r hq
    · simp only [if_neg hx] at h2
      have hh := hs.hds x tk' (h1.resolve_right hx) h2
      have e1 : ∀ g, (γ.tokH n v fp hv).gl x g = γ.gl x g := fun g => by show (if x = n then _ else _) = _; rw [if_neg hx]
      have e2 : ∀ g, (γ.tokH n v fp hv).hv x g = γ.hv x g := fun g => by show (if x = n then _ else _) = _; rw [if_neg hx]
      have e3 : (γ.tokH n v fp hv).tv x = γ.tv x := by rw [htv, if_neg hx]
      exact ⟨by rw [e1]; exact hh.1, fun g hg => by rw [e1] at hg; exact hh.2.1 g hg, fun q r hq => by rw [e2, e3]; exact hh.2.2 q r hq⟩

def tset (T : Nat → Option Tok) (t : Nat) (k : Option Tok) : Nat → Option Tok := fun x => if x = t then k else T x
theorem OSim.kill (hs : OSim cx γ T B w) (t : Nat) : OSim cx γ (tset T t none) B w :=
  hs.tables (fun x tk _ h => by unfold tset at h; split at h; cases h; exact h) fun _ _ _ h => h
theorem OSim.freed (hs : OSim cx γ T B w) {t : Nat} {tk : Tok} (htl : γ.tl t) (hT : T t = some tk) : ∀ g ∈ γ.tf t, Free cx γ (tset T t none) B g := by
  intro g hg
  refine ⟨fun x tk' h1 h2 => ?_, fun b vs h1 h2 e => hs.btd b t vs tk h1 htl h2 hT (e ▸ hg), hs.tfr t tk htl hT g hg⟩
  unfold tset at h2
  split at h2
  · cases h2
  · rename_i hx
    exact hs.tds t x tk tk' (fun e => hx e.symm) htl h1 hT h2 g hg
/-- What is carved, and of what: a slice of its own now, the tree of the other has a gap. -/
structure Carved (γ : Gh) (w : World) (n t g : Nat) (p : Pth) : Prop where
  tl : γ.tl n
  gl : γ.gl n 0
  tlt : γ.tl t
  glt : γ.gl t g
  tv : hdr w (γ.tv t) p = γ.tv n
  av : γ.tv n = γ.hv t g p
  hv : ∀ q, γ.hv n 0 q = γ.hv t g (p ++ q)
theorem Carved.ext {γ γ' : Gh} {w : World} {n t g : Nat} {p : Pth} (he : Gh.Ext γ γ') (h : Carved γ w n t g p) : Carved γ' w n t g p :=
  ⟨he.tl n h.tl, he.gl n 0 h.tl h.gl, he.tl t h.tlt, he.gl t g h.tlt h.glt, by rw [he.tv t h.tlt, he.tv n h.tl]; exact h.tv, by rw [he.tv n h.tl, he.hv t g h.tlt h.glt]; exact h.av, fun q => by rw [he.hv n 0 h.tl h.gl, he.hv t g h.tlt h.glt]; exact h.hv q⟩
theorem OSim.carve (hs : OSim cx γ T B w) {t n g : Nat} {p : Pth} {tk : Tok} {rows : List (List D)} (hTn : T n = none) (hnl : ¬ γ.tl n) (htl : γ.tl t) (hT : T t = some tk) (hg : tk.gen = g) (hp0 : p ≠ []) (hp : getP p tk.rows = some rows) (hne : n ≠ t) :
    ∃ γ', Gh.Ext γ γ' ∧ OSim cx γ' (tset (tset T t (some ⟨putR p tk.rows .gone, tk.sz, g⟩)) n (some ⟨rows, none, 0⟩)) B w ∧ Carved γ' w n t g p ∧ (∀ x, γ'.tl x → γ.tl x ∨ x = n) ∧ (∀ b, γ'.bl b → γ.bl b) := by
  have hsub : subR T t g p = some rows := by unfold subR; rw [hT]; simp [hg, hp]
  obtain ⟨tk', f1, f2, f3, hT', hg', ha, hgl, htf, hown, hback⟩ := sub_own hs.vw htl hsub
  rw [hT] at hT'
  obtain rfl := Option.some.inj hT'
  have hh := hs.hds t tk htl hT
  have hhd := hh.2.2 p rows ha
  rw [hg] at hhd
  have hnd := hs.tnd t tk htl hT
  rw [htf] at hnd
  have hndo : (f1 ++ f3).Nodup ∧ f2.Nodup ∧ ∀ x ∈ f2, x ∉ f1 ++ f3 := by
    rw [List.nodup_append] at hnd
    obtain ⟨n1, n2, n3⟩ := hnd
    rw [List.nodup_append] at n2
    obtain ⟨n4, n5, n6⟩ := n2
    refine ⟨List.nodup_append.2 ⟨n1, n5, fun a ha b hb => n3 a ha b (by simp [hb])⟩, n4, fun x hx hm => ?_⟩
    rcases List.mem_append.1 hm with hm | hm
    · exact n3 x hm x (by simp [hx]) rfl
    · exact n6 x hx x hm rfl
  have hone : (γ.hv t g p).oneCell' = true := hown.one
  have hput := hback w .gone [] (fun _ _ => rfl) (by simp only [Own]; exact ⟨hone, trivial⟩)
  rw [List.nil_append] at hput
  have htok := TokOk.put hp0 (hs.tok t tk htl hT) ha hput g
  have hs0 := hs.kill t
  have hfr := hs.freed htl hT
  have hinv : ∀ q r, At q (.sl (putR p tk.rows .gone)) (.sl r) → ∃ r', At q (.sl tk.rows) (.sl r') := fun q r hq => by
    rw [← (put_sl hp0 ha .gone).1] at hq
    rcases At.put_inv ha hq with h | ⟨q2, -, h⟩
    · exact h
    · cases q2 with
      | nil => simp only [At] at h; cases h
      | cons s q2 => simp only [At] at h
  have hs1 := hs0.putTok (t := t) (tk := ⟨putR p tk.rows .gone, tk.sz, g⟩) (v := γ.tv t) (fp := f1 ++ f3) (by unfold tset; rw [if_pos rfl]) (fun _ => rfl) htok hndo.1 (fun x hx => hfr x (by rw [htf]; rcases List.mem_append.1 hx with h | h <;> simp [h])) (fun _ k hk => by rw [← hg]; exact hh.2.1 k hk) (fun _ _ q r hq => by
    obtain ⟨r', hr'⟩ := hinv q r hq
    rw [← hg]; exact hh.2.2 q r' hr')
  have hTe : (fun x => if x = t then some (⟨putR p tk.rows .gone, tk.sz, g⟩ : Tok) else tset T t none x) = tset T t (some ⟨putR p tk.rows .gone, tk.sz, g⟩) := by
    funext x; unfold tset; split <;> rfl
  rw [hTe] at hs1
  have he1 : Gh.Ext γ (γ.tok w t (γ.tv t) (f1 ++ f3) g) := Gh.tok_ext fun _ => rfl
  generalize hγ1 : γ.tok w t (γ.tv t) (f1 ++ f3) g = γ1 at hs1 he1
  have htf1 : ∀ x, γ1.tf x = if x = t then f1 ++ f3 else γ.tf x := fun x => by rw [← hγ1]; rfl
  have htl1 : ∀ x, γ1.tl x → γ.tl x := fun x hx => by rw [← hγ1] at hx; rcases hx with h | h; exact h; exact h ▸ htl
  have hbl1 : ∀ b, γ1.bl b → γ.bl b := fun b hb => by rw [← hγ1] at hb; exact hb
  have hbb1 : ∀ b, γ1.bb b = γ.bb b := fun b => by rw [← hγ1]; rfl
  have hv1 : γ1.hv t g = γ.hv t g := he1.hv t g htl hgl
  have hfree2 : ∀ x ∈ f2, Free cx γ1 (tset T t (some ⟨putR p tk.rows .gone, tk.sz, g⟩)) B x := fun x hx => by
    have hx0 := hfr x (by rw [htf]; simp [hx])
    refine ⟨fun y tk' h1 h2 => ?_, fun b vs h1 h2 => by rw [hbb1]; exact hx0.b b vs (hbl1 b h1) h2, hx0.fr⟩
    rw [htf1]
    by_cases hy : y = t
    · rw [if_pos hy]; exact hndo.2.2 x hx
    · rw [if_neg hy]
      refine hx0.t y tk' (htl1 y h1) ?_
      unfold tset at h2 ⊢
      rw [if_neg hy] at h2 ⊢; exact h2
  have hnl1 : ¬ γ1.tl n := fun h => hnl (htl1 n h)
  have hs2 := hs1.putTokH (n := n) (tk := ⟨rows, none, 0⟩) (v := γ.hv t g p) (fp := f2) (hv := fun q => γ.hv t g (p ++ q)) (by unfold tset; rw [if_neg hne]; exact hTn) hnl1 rfl hown hndo.2.1 hfree2 (fun q r hq => by
    have := hh.2.2 (p ++ q) r (ha.trans hq)
    rw [hdr_app, hg, hhd] at this
    exact this)
  refine ⟨_, he1.trans (Gh.tokH_ext hnl1), hs2, ⟨.inr rfl, ?_, .inl (he1.tl t htl), ?_, ?_, ?_, fun q => ?_⟩, fun x hx => ?_, fun b hb => hbl1 b hb⟩
  · show (if n = n then _ else _)
    rw [if_pos rfl]
  · show (if t = n then _ else γ1.gl t g)
    rw [if_neg (fun e => hne e.symm)]; exact he1.gl t g htl hgl
  · show hdr w (if t = n then _ else γ1.tv t) p = if n = n then _ else _
    rw [if_pos rfl, if_neg (fun e => hne e.symm), he1.tv t htl]; exact hhd
  · show (if n = n then _ else _) = (if t = n then _ else γ1.hv t g) p
    rw [if_pos rfl, if_neg (fun e => hne e.symm), hv1]
  · show (if n = n then (fun q => γ.hv t g (p ++ q) : Pth → Value) else γ1.hv n 0) q = (if t = n then (fun q => γ.hv t g (p ++ q) : Pth → Value) else γ1.hv t g) (p ++ q)
    rw [if_pos rfl, if_neg (fun e => hne e.symm), hv1]
  · rcases hx with hx | hx
    · exact .inl (htl1 x hx)
    · exact .inr hx
/-- The way back. -/
theorem OSim.uncarve (hs : OSim cx γ T B w) {t n g : Nat} {p : Pth} {tk tn : Tok} (htl : γ.tl t) (hT : T t = some tk) (hTn : T n = some tn) (hp : getC p tk.rows = some .gone) (hne : n ≠ t) (hc : Carved γ w n t g p) :
    ∃ γ', Gh.Ext γ γ' ∧ OSim cx γ' (tset (tset T t (some ⟨putR p tk.rows (.sl tn.rows), tk.sz, if tn.gen = 0 ∧ tk.gen = g then g else tk.gen + tn.gen + 1⟩)) n none) B w ∧ (∀ x, γ'.tl x → γ.tl x) ∧ (∀ b, γ'.bl b → γ.bl b) := by
  have ha := getC_at hp
  have hp0 : p ≠ [] := by
    rintro rfl
    simp only [getC, Option.some.injEq] at hp
    cases hp
  have hown := (hs.tok t tk htl hT).own
  have hownn := (hs.tok n tn hc.tl hTn).own
  obtain ⟨f1, f2, f3, htf, hg0, hback⟩ := hown.path ha
  simp only [Own] at hg0
  obtain ⟨-, rfl⟩ := hg0
  rw [List.nil_append] at htf
  have hb2 := hback w (.sl tn.rows) (γ.tf n) (fun _ _ => rfl) (by rw [hc.tv]; exact hownn)
  have htok := TokOk.put hp0 (hs.tok t tk htl hT) ha hb2 (if tn.gen = 0 ∧ tk.gen = g then g else tk.gen + tn.gen + 1)
  have hnd := hs.tnd t tk htl hT
  have hndn := hs.tnd n tn hc.tl hTn
  have hdis := hs.tds t n tk tn (fun e => hne e.symm) htl hc.tl hT hTn
  rw [htf] at hnd hdis
  have hs0 := (hs.kill t).kill n
  have hfrt := hs.freed htl hT
  have hfrn := hs.freed hc.tl hTn
  have hfr : ∀ x, x ∈ γ.tf t ∨ x ∈ γ.tf n → Free cx γ (tset (tset T t none) n none) B x := fun x hx => by
    rcases hx with hx | hx
    · have h := hfrt x hx
      refine ⟨fun y tk' h1 h2 => h.t y tk' h1 ?_, h.b, h.fr⟩
      unfold tset at h2 ⊢
      split at h2
      · cases h2
      · exact h2
    · have h := hfrn x hx
      refine ⟨fun y tk' h1 h2 => h.t y tk' h1 ?_, h.b, h.fr⟩
      unfold tset at h2 ⊢
      split at h2
      · cases h2
      · rename_i hy
        split at h2
        · cases h2
        · rw [if_neg hy]; exact h2
  have hh := hs.hds t tk htl hT
  have hhn := hs.hds n tn hc.tl hTn
  have hs1 := hs0.putTok (t := t) (tk := ⟨putR p tk.rows (.sl tn.rows), tk.sz, if tn.gen = 0 ∧ tk.gen = g then g else tk.gen + tn.gen + 1⟩) (v := γ.tv t) (fp := f1 ++ (γ.tf n ++ f3)) (by unfold tset; rw [if_neg (fun e => hne e.symm), if_pos rfl]) (fun _ => rfl) htok ?_ ?_ ?_ ?_
  · refine ⟨γ.tok w t (γ.tv t) (f1 ++ (γ.tf n ++ f3)) (if tn.gen = 0 ∧ tk.gen = g then g else tk.gen + tn.gen + 1), Gh.tok_ext fun _ => rfl, ?_, fun x hx => ?_, fun b hb => hb⟩
    · refine hs1.tables (fun x tk' _ h => ?_) fun _ _ _ h => h
      unfold tset at h ⊢
      by_cases hx : x = t
      · simp only [if_pos hx]
        rw [if_neg (fun e => hne (e.symm.trans hx)), if_pos hx] at h
        exact h
      · simp only [if_neg hx]
        by_cases hxn : x = n
        · rw [if_pos hxn] at h; cases h
        · rw [if_neg hxn, if_neg hx] at h
          rw [if_neg hxn]; exact h
    · rcases hx with h | h
      · exact h
      · exact h ▸ htl
  · have e1 : f1 ++ f3 = f1 ++ ([] ++ f3) := rfl
    rw [e1] at hnd
    refine nodup_mid hnd hndn fun k hk => ⟨fun hm => hdis k (by simp [hm]) hk, fun hm => hdis k (by simp [hm]) hk⟩
  · intro x hx
    refine hfr x ?_
    simp only [List.mem_append] at hx
    rw [htf]
    rcases hx with h | h | h
    · exact .inl (by simp [h])
    · exact .inr h
    · exact .inl (by simp [h])
  · intro _ k hk
    have := hh.2.1 k hk
    show k ≤ (if tn.gen = 0 ∧ tk.gen = g then g else tk.gen + tn.gen + 1)
    split
    · rename_i e; omega
    · omega
  · intro _ hgl q r hq
    have hgl : γ.gl t (if tn.gen = 0 ∧ tk.gen = g then g else tk.gen + tn.gen + 1) := hgl
    show _ = γ.hv t (if tn.gen = 0 ∧ tk.gen = g then g else tk.gen + tn.gen + 1) q
    have hgg : (if tn.gen = 0 ∧ tk.gen = g then g else tk.gen + tn.gen + 1) = g ∧ tn.gen = 0 ∧ tk.gen = g := by
      by_cases e : tn.gen = 0 ∧ tk.gen = g
      · exact ⟨by rw [if_pos e], e⟩
      · rw [if_neg e] at hgl
        have := hh.2.1 _ hgl
        omega
    rw [hgg.1]
    have hq' : At q (.sl (putR p tk.rows (.sl tn.rows))) (.sl r) := hq
    rw [← (put_sl hp0 ha (.sl tn.rows)).1] at hq'
    rcases At.put_inv ha hq' with ⟨r', h⟩ | ⟨q2, rfl, h⟩
    · rw [← hgg.2.2]; exact hh.2.2 q r' h
    · rw [hdr_app, hc.tv, ← hc.hv q2, hhn.2.2 q2 r h, hgg.2.1]
end
end Go.Proofs.Ytfbnlkaggggmiaa.Ab
