/-
  The abstract walk: a call that is lent slices and boxes: what the callee is told of them.
-/
import Derived.Test.YtfbnlkaggggmiaaAbLa
namespace Go.Proofs.Ytfbnlkaggggmiaa.Ab
set_option linter.unusedVariables false
set_option linter.unusedSimpArgs false
open Go.RowKit

/-! ### Tables -/
theorem mem_of_look {α : Type} : ∀ {l : List (Nat × α)} {i : Nat} {x : α}, look l i = some x → (i, x) ∈ l
  | [], i, x, h => by cases h
  | (j, y) :: l, i, x, h => by
    rw [look_cons] at h
    split at h
    · rename_i e; cases h; subst e; exact List.mem_cons_self
    · exact List.mem_cons_of_mem _ (mem_of_look h)
theorem look_of_mem {α : Type} : ∀ {l : List (Nat × α)} {i : Nat} {x : α}, (l.map (·.1)).Nodup → (i, x) ∈ l → look l i = some x
  | [], i, x, _, h => by cases h
  | (j, y) :: l, i, x, hn, h => by
    rw [List.map_cons, List.nodup_cons] at hn
    rw [look_cons]
    rcases List.mem_cons.1 h with h1 | h1
    · cases h1; rw [if_pos rfl]
    · rw [if_neg (fun e => hn.1 (List.mem_map.2 ⟨_, h1, e⟩)), look_of_mem hn.2 h1]
theorem look_isSome {α : Type} {l : List (Nat × α)} {i : Nat} (h : (look l i).isSome = true) : ∃ x, look l i = some x := Option.isSome_iff_exists.1 h
/-- The callee's number of what the caller has under a number. -/
def inv (l : List (Nat × Nat)) (n : Nat) : Option Nat := look (l.map fun x => (x.2, x.1)) n
theorem inv_cons {c m : Nat} {l : List (Nat × Nat)} {n : Nat} : inv ((c, m) :: l) n = if n = m then some c else inv l n := rfl
theorem inv_mem {l : List (Nat × Nat)} {n c : Nat} (h : inv l n = some c) : (c, n) ∈ l := by
  have := mem_of_look h
  obtain ⟨x, hx, he⟩ := List.mem_map.1 this
  cases he; exact hx
theorem inv_of_mem {l : List (Nat × Nat)} {n c : Nat} (hn : (l.map (·.2)).Nodup) (h : (c, n) ∈ l) : inv l n = some c := by
  refine look_of_mem ?_ (List.mem_map.2 ⟨_, h, rfl⟩)
  rw [List.map_map]; exact hn
def invB (l : List (Nat × Nat × Nat)) (n : Nat) : Option (Nat × Nat) := look (l.map fun x => (x.2.1, (x.1, x.2.2))) n
theorem invB_cons {c m k : Nat} {l : List (Nat × Nat × Nat)} {n : Nat} : invB ((c, m, k) :: l) n = if n = m then some (c, k) else invB l n := rfl
theorem invB_mem {l : List (Nat × Nat × Nat)} {n c k : Nat} (h : invB l n = some (c, k)) : (c, n, k) ∈ l := by
  have := mem_of_look h
  obtain ⟨x, hx, he⟩ := List.mem_map.1 this
  obtain ⟨a, b, d⟩ := x
  cases he; exact hx
theorem invB_of_mem {l : List (Nat × Nat × Nat)} {n c k : Nat} (hn : (l.map (·.2.1)).Nodup) (h : (c, n, k) ∈ l) : invB l n = some (c, k) := by
  refine look_of_mem ?_ (List.mem_map.2 ⟨_, h, rfl⟩)
  rw [List.map_map]; exact hn
theorem goneT_look (s : List (Nat × Option Tok)) (n : Nat) : ∀ l : List (Nat × Nat), look (goneT l s) n = if (inv l n).isSome = true then some none else look s n
  | [] => rfl
  | (c, m) :: l => by
    rw [goneT, look_cons, inv_cons]
    split
    · rfl
    · exact goneT_look s n l
theorem goneB_look (s : List (Nat × Option (List AV))) (n : Nat) : ∀ l : List (Nat × Nat × Nat), look (goneB l s) n = if (invB l n).isSome = true then some none else look s n
  | [] => rfl
  | (c, m, k) :: l => by
    rw [goneB, look_cons, invB_cons]
    split
    · rfl
    · exact goneB_look s n l
def genOf (σ : St) (n : Nat) : Nat := ((σ.T n).map (·.gen)).getD 0
theorem backT_look (σ : St) (qt : List (Nat × Tok)) (s : List (Nat × Option Tok)) (n : Nat) : ∀ l : List (Nat × Nat), look (backT σ qt l s) n = match inv l n with
    | some c => some ((look qt c).map fun tk => ⟨tk.rows, tk.sz, genOf σ n + tk.gen⟩)
    | none => look s n
  | [] => rfl
  | (c, m) :: l => by
    rw [backT, look_cons, inv_cons]
    by_cases h : n = m
    · subst h
      simp only [if_pos]; rfl
    · rw [if_neg h, if_neg h]; exact backT_look σ qt s n l
theorem newT_look (qt : List (Nat × Tok)) (s : List (Nat × Option Tok)) (n : Nat) : ∀ l : List (Nat × Nat), look (newT qt l s) n = match inv l n with
    | some c => some (look qt c)
    | none => look s n
  | [] => rfl
  | (c, m) :: l => by
    rw [newT, look_cons, inv_cons]
    by_cases h : n = m
    · subst h
      simp only [if_pos]
    · rw [if_neg h, if_neg h]; exact newT_look qt s n l
theorem backB_look (σ : St) (y : Way) (qb : List (Nat × List AV)) (s : List (Nat × Option (List AV))) (n : Nat) : ∀ l : List (Nat × Nat × Nat), look (backB σ y qb l s) n = match invB l n with
    | some q => some ((look qb q.1).bind fun vs => (σ.B n).map fun ws => splice ws q.2 (baks y vs))
    | none => look s n
  | [] => rfl
  | (c, m, k) :: l => by
    rw [backB, look_cons, invB_cons]
    by_cases h : n = m
    · subst h
      simp only [if_pos]
    · rw [if_neg h, if_neg h]; exact backB_look σ y qb s n l
theorem newB_look (y : Way) (qb : List (Nat × List AV)) (s : List (Nat × Option (List AV))) (n : Nat) : ∀ l : List (Nat × Nat), look (newB y qb l s) n = match inv l n with
    | some c => some ((look qb c).map (baks y))
    | none => look s n
  | [] => rfl
  | (c, m) :: l => by
    rw [newB, look_cons, inv_cons]
    by_cases h : n = m
    · subst h
      simp only [if_pos]
    · rw [if_neg h, if_neg h]; exact newB_look y qb s n l
theorem passT_spec {rt : List (Nat × Nat)} {σ : St} : ∀ {l : List (Nat × Tok)}, PassT rt σ l → ∀ {c : Nat} {tk : Tok}, look l c = some tk → ∃ n, look rt c = some n ∧ tk.gen = 0 ∧ ∃ tk', σ.T n = some tk' ∧ tk'.rows = tk.rows ∧ (tk.sz = none ∨ tk'.sz = tk.sz)
  | [], _, c, tk, h => by cases h
  | (d, x) :: l, hp, c, tk, h => by
    simp only [PassT] at hp
    rw [look_cons] at h
    split at h
    · rename_i e; subst e; cases h; exact hp.1
    · exact passT_spec hp.2 h
theorem passB_spec {y : Way} {σ σ0 : St} : ∀ {l : List (Nat × List AV)}, PassB y σ σ0 l → ∀ {b : Nat} {vs : List AV}, look l b = some vs → ∃ q, look y.rb b = some q ∧ ∃ ws, σ.B q.1 = some ws ∧ q.2 + vs.length ≤ ws.length ∧ PasL y σ0 (vcells ws q.2 vs.length) vs
  | [], _, c, tk, h => by cases h
  | (d, x) :: l, hp, c, tk, h => by
    simp only [PassB] at hp
    rw [look_cons] at h
    split at h
    · rename_i e; subst e; cases h; exact hp.1
    · exact passB_spec hp.2 h
theorem TokOk.as {w : World} {tk tk' : Tok} {v : Value} {fp : List Nat} (h1 : tk'.rows = tk.rows) (h2 : tk.sz = none ∨ tk'.sz = tk.sz) (h : TokOk w tk' v fp) : TokOk w tk v fp := by
  obtain ⟨r, z, k⟩ := tk
  obtain ⟨r', z', k'⟩ := tk'
  simp only at h1 h2
  subst h1
  rcases h2 with h2 | h2
  · subst h2; exact h.own
  · subst h2; exact h

/-! ### A world in which some blocks are out of sight -/
open Classical in
noncomputable def hide (w : World) (S : Nat → Prop) : World := { w with heap := w.heap.mapIdx fun i o => if S i then .cells #[] 0 (0, 0) else o }
theorem hide_off {w : World} {S : Nat → Prop} {k : Nat} (h : ¬ S k) : (hide w S).heap[k]? = w.heap[k]? := by
  unfold hide
  simp only [Array.getElem?_mapIdx, if_neg h]
  cases w.heap[k]? <;> rfl
theorem hide_on {w : World} {S : Nat → Prop} {a : Addr} (h : S a.block) : (hide w S).cell? a = none := by
  unfold World.cell? hide
  simp only [Array.getElem?_mapIdx, if_pos h]
  cases w.heap[a.block]? with
  | none => rfl
  | some o => simp
theorem hide_keeps {w : World} {S : Nat → Prop} : Keeps (hide w S) w := by
  intro a u hu
  by_cases h : S a.block
  · rw [hide_on h] at hu; cases hu
  · unfold World.cell? at hu ⊢
    rw [hide_off h] at hu; exact hu

/-! ### What the callee is told -/
def Way.m (y : Way) (c : Nat) : Nat := (look y.rt c).getD c
def Way.mb (y : Way) (b : Nat) : Nat × Nat := (look y.rb b).getD (b, 0)
def Gh.cee (γ : Gh) (σ : St) (y : Way) : Gh where
  tl c := ∃ n, look y.rt c = some n ∧ γ.tl n
  tv c := γ.tv (y.m c)
  tf c := γ.tf (y.m c)
  bl b := ∃ q, look y.rb b = some q ∧ γ.bl q.1
  bb b := γ.bb (y.mb b).1
  bo b := γ.bo (y.mb b).1 + (y.mb b).2
  gl c g := g = 0
  hv c _ := γ.hv (y.m c) (genOf σ (y.m c))
def LentF (γ : Gh) (σ : St) (y : Way) (g : Nat) : Prop := ∃ c n tk, look y.rt c = some n ∧ γ.tl n ∧ σ.T n = some tk ∧ g ∈ γ.tf n
open Classical in
noncomputable def lentL (γ : Gh) (y : Way) (pb : List (Nat × List AV)) : List (Nat × Nat × Nat) :=
  y.rb.filterMap fun x => if γ.bl x.2.1 then some (γ.bb x.2.1, γ.bo x.2.1 + x.2.2, ((look pb x.1).map List.length).getD 0) else none
theorem mem_lentL {γ : Gh} {y : Way} {pb : List (Nat × List AV)} {z : Nat × Nat × Nat} : z ∈ lentL γ y pb ↔ ∃ b n k, (b, n, k) ∈ y.rb ∧ γ.bl n ∧ z = (γ.bb n, γ.bo n + k, ((look pb b).map List.length).getD 0) := by
  unfold lentL
  rw [List.mem_filterMap]
  constructor
  · rintro ⟨⟨b, n, k⟩, h1, h2⟩
    simp only at h2
    split at h2
    · rename_i hb; exact ⟨b, n, k, h1, hb, (Option.some.inj h2).symm⟩
    · cases h2
  · rintro ⟨b, n, k, h1, h2, rfl⟩
    exact ⟨(b, n, k), h1, by simp only [if_pos h2]⟩
def LentS (γ : Gh) (σ : St) (y : Way) (g : Nat) : Prop := LentF γ σ y g ∨ ∃ b n k, (b, n, k) ∈ y.rb ∧ γ.bl n ∧ g = γ.bb n
noncomputable def view (cx : Cx) (γ : Gh) (σ : St) (y : Way) (w : World) : World := match y.md with
  | true => cx.w0
  | false => hide w (LentS γ σ y)

mutual
theorem occT_sound {w0 : World} {γ : Gh} {c : Nat} : ∀ {a : AV} {v : Value}, VSim w0 γ a v → occT c a = true → γ.tl c
  | .own t, v, h, ho => by simp only [occT, beq_iff_eq] at ho; subst ho; simp only [VSim] at h; exact h.1.1
  | .elt t _ _ _, v, h, ho => by simp only [occT, beq_iff_eq] at ho; subst ho; simp only [VSim] at h; exact h.1
  | .agg vs, v, h, ho => by simp only [occT] at ho; simp only [VSim] at h; obtain ⟨us, -, h⟩ := h; exact occTs_sound h ho
  | .fn _ vs, v, h, ho => by simp only [occT] at ho; simp only [VSim] at h; obtain ⟨us, -, h⟩ := h; exact occTs_sound h ho
  | .any, _, _, ho => by simp [occT] at ho
  | .int _ _, _, _, ho => by simp [occT] at ho
  | .bool _, _, _, ho => by simp [occT] at ho
  | .str _, _, _, ho => by simp [occT] at ho
  | .ro _, _, _, ho => by simp [occT] at ho
  | .box _ _, _, _, ho => by simp [occT] at ho
  | .rop _ _, _, _, ho => by simp [occT] at ho
  | .bsl _ _ _, _, _, ho => by simp [occT] at ho
  | .sub _ _ _, _, _, ho => by simp [occT] at ho
  | .els _ _ _ _ _ _, _, _, ho => by simp [occT] at ho
  | .tup _, _, _, ho => by simp [occT] at ho
  | .nilp, _, _, ho => by simp [occT] at ho
  | .nils, _, _, ho => by simp [occT] at ho
theorem occTs_sound {w0 : World} {γ : Gh} {c : Nat} : ∀ {as : List AV} {us : List Value}, VSims w0 γ as us → occTs c as = true → γ.tl c
  | [], _, _, ho => by simp [occTs] at ho
  | a :: as, us, h, ho => by
    simp only [occTs, Bool.or_eq_true] at ho
    simp only [VSims] at h
    obtain ⟨u, us', rfl, h1, h2⟩ := h
    rcases ho with ho | ho
    · exact occT_sound h1 ho
    · exact occTs_sound h2 ho
end
mutual
theorem occB_sound {w0 : World} {γ : Gh} {c : Nat} : ∀ {a : AV} {v : Value}, VSim w0 γ a v → occB c a = true → γ.bl c
  | .box b _, v, h, ho => by simp only [occB, beq_iff_eq] at ho; subst ho; simp only [VSim] at h; exact h.1
  | .agg vs, v, h, ho => by simp only [occB] at ho; simp only [VSim] at h; obtain ⟨us, -, h⟩ := h; exact occBs_sound h ho
  | .fn _ vs, v, h, ho => by simp only [occB] at ho; simp only [VSim] at h; obtain ⟨us, -, h⟩ := h; exact occBs_sound h ho
  | .any, _, _, ho => by simp [occB] at ho
  | .int _ _, _, _, ho => by simp [occB] at ho
  | .bool _, _, _, ho => by simp [occB] at ho
  | .str _, _, _, ho => by simp [occB] at ho
  | .ro _, _, _, ho => by simp [occB] at ho
  | .own _, _, _, ho => by simp [occB] at ho
  | .elt _ _ _ _, _, _, ho => by simp [occB] at ho
  | .rop _ _, _, _, ho => by simp [occB] at ho
  | .bsl _ _ _, _, _, ho => by simp [occB] at ho
  | .sub _ _ _, _, _, ho => by simp [occB] at ho
  | .els _ _ _ _ _ _, _, _, ho => by simp [occB] at ho
  | .tup _, _, _, ho => by simp [occB] at ho
  | .nilp, _, _, ho => by simp [occB] at ho
  | .nils, _, _, ho => by simp [occB] at ho
theorem occBs_sound {w0 : World} {γ : Gh} {c : Nat} : ∀ {as : List AV} {us : List Value}, VSims w0 γ as us → occBs c as = true → γ.bl c
  | [], _, _, ho => by simp [occBs] at ho
  | a :: as, us, h, ho => by
    simp only [occBs, Bool.or_eq_true] at ho
    simp only [VSims] at h
    obtain ⟨u, us', rfl, h1, h2⟩ := h
    rcases ho with ho | ho
    · exact occB_sound h1 ho
    · exact occBs_sound h2 ho
end

section
variable {cx : Cx} {γ : Gh} {σ : St} {w : World} {y : Way} {pt : List (Nat × Tok)} {pb : List (Nat × List AV)}
/-- The pieces of 'Way.ok' in use. -/
structure WayOk (y : Way) (σ : St) (pt : List (Nat × Tok)) (pb : List (Nat × List AV)) : Prop where
  nt2 : ((y.rt ++ y.nt).map (·.2)).Nodup
  nt1 : ((y.rt ++ y.nt).map (·.1)).Nodup
  nb2 : ((y.rb.map (·.2.1)) ++ y.nb.map (·.2)).Nodup
  nb1 : ((y.rb.map (·.1)) ++ y.nb.map (·.1)).Nodup
  rt : ∀ c n, (c, n) ∈ y.rt → (look pt c).isSome = true
  rb : ∀ c n k, (c, n, k) ∈ y.rb → (look pb c).isSome = true
  nt : ∀ c n, (c, n) ∈ y.nt → look pt c = none ∧ look σ.t n = none
  nb : ∀ c n, (c, n) ∈ y.nb → look pb c = none ∧ look σ.b n = none
theorem WayOk.of (h : y.ok σ pt pb) : WayOk y σ pt pb := by
  obtain ⟨h1, h2, h3, h4, h5, h6, h7, h8, -⟩ := h
  rw [List.all_eq_true] at h5 h6 h7 h8
  refine ⟨h1, h2, h3, h4, fun c n hm => h5 _ hm, fun c n k hm => h6 _ hm, fun c n hm => ?_, fun c n hm => ?_⟩
  · have := h7 _ hm
    simpa using this
  · have := h8 _ hm
    simpa using this
theorem WayOk.t2 (h : WayOk y σ pt pb) : (y.rt.map (·.2)).Nodup := by
  have := h.nt2
  rw [List.map_append] at this
  exact (List.nodup_append.1 this).1
theorem WayOk.t1 (h : WayOk y σ pt pb) : (y.rt.map (·.1)).Nodup := by
  have := h.nt1
  rw [List.map_append] at this
  exact (List.nodup_append.1 this).1
theorem WayOk.b2 (h : WayOk y σ pt pb) : (y.rb.map (·.2.1)).Nodup := (List.nodup_append.1 h.nb2).1
theorem WayOk.b1 (h : WayOk y σ pt pb) : (y.rb.map (·.1)).Nodup := (List.nodup_append.1 h.nb1).1
theorem m_eq {c n : Nat} (h : look y.rt c = some n) : y.m c = n := by simp [Way.m, h]
theorem mb_eq {b : Nat} {q : Nat × Nat} (h : look y.rb b = some q) : y.mb b = q := by simp [Way.mb, h]
theorem WayOk.tlook (h : WayOk y σ pt pb) {c n : Nat} : look y.rt c = some n ↔ (c, n) ∈ y.rt := ⟨mem_of_look, look_of_mem h.t1⟩
theorem WayOk.blook (h : WayOk y σ pt pb) {b n k : Nat} : look y.rb b = some (n, k) ↔ (b, n, k) ∈ y.rb := ⟨mem_of_look, look_of_mem h.b1⟩

theorem lentS_fr (hs : OSim cx γ σ.T σ.B w) (ho : WayOk y σ pt pb) (hpb : PassB y σ (σ.less y) pb) {g : Nat} (h : LentS γ σ y g) : cx.we.heap.size ≤ g ∨ cx.LF g ∨ ∃ x ∈ cx.L, x.1 = g := by
  rcases h with ⟨c, n, tk, h1, h2, h3, h4⟩ | ⟨b, n, k, h1, h2, rfl⟩
  · rcases hs.tfr n tk h2 h3 g h4 with h | h
    · exact .inl h
    · exact .inr (.inl h.1)
  · obtain ⟨vs, hvs⟩ := look_isSome (ho.rb b n k h1)
    obtain ⟨q, hq, ws, hws, -⟩ := passB_spec hpb hvs
    rw [ho.blook.2 h1] at hq; cases hq
    rcases hs.bfr n ws h2 hws with h | ⟨-, x, hx, h, -⟩
    · exact .inl h
    · exact .inr (.inr ⟨x, hx, h⟩)
theorem lentS_lt (hs : OSim cx γ σ.T σ.B w) (ho : WayOk y σ pt pb) (hpb : PassB y σ (σ.less y) pb) {g : Nat} (h : LentS γ σ y g) : g < w.heap.size := by
  rcases h with ⟨c, n, tk, h1, h2, h3, h4⟩ | ⟨b, n, k, h1, h2, rfl⟩
  · exact (hs.tok n tk h2 h3).lt g h4
  · obtain ⟨vs, hvs⟩ := look_isSome (ho.rb b n k h1)
    obtain ⟨q, hq, ws, hws, -⟩ := passB_spec hpb hvs
    rw [ho.blook.2 h1] at hq; cases hq
    obtain ⟨us, -, h3⟩ := hs.box n ws h2 hws
    exact h3.lt
theorem less_T {t : Nat} {tk : Tok} (h : (σ.less y).T t = some tk) : σ.T t = some tk ∧ inv y.rt t = none := by
  have h' : (look (goneT y.rt σ.t) t).join = some tk := h
  rw [goneT_look] at h'
  split at h'
  · cases h'
  · rename_i hn
    exact ⟨h', by simpa using hn⟩
theorem less_B {t : Nat} {vs : List AV} (h : (σ.less y).B t = some vs) : σ.B t = some vs ∧ invB y.rb t = none := by
  have h' : (look (goneB y.rb σ.b) t).join = some vs := h
  rw [goneB_look] at h'
  split at h'
  · cases h'
  · rename_i hn
    exact ⟨h', by simpa using hn⟩
/-- What is not lent lies elsewhere. -/
theorem less_tok (hs : OSim cx γ σ.T σ.B w) (ho : WayOk y σ pt pb) (hpb : PassB y σ (σ.less y) pb) {t : Nat} {tk : Tok} (htl : γ.tl t) (hT : (σ.less y).T t = some tk) : ∀ g ∈ γ.tf t, ¬ LentS γ σ y g := by
  obtain ⟨hT, hi⟩ := less_T hT
  intro g hg h
  rcases h with ⟨c, n, tk', h1, h2, h3, h4⟩ | ⟨b, n, k, h1, h2, rfl⟩
  · have hne : n ≠ t := by
      rintro rfl
      rw [inv_of_mem ho.t2 (ho.tlook.1 h1)] at hi; cases hi
    exact hs.tds n t tk' tk hne h2 htl h3 hT g h4 hg
  · obtain ⟨vs, hvs⟩ := look_isSome (ho.rb b n k h1)
    obtain ⟨q, hq, ws, hws, -⟩ := passB_spec hpb hvs
    rw [ho.blook.2 h1] at hq; cases hq
    exact hs.btd n t ws tk h2 htl hws hT hg
theorem less_box (hs : OSim cx γ σ.T σ.B w) (ho : WayOk y σ pt pb) (hpb : PassB y σ (σ.less y) pb) {t : Nat} {us : List AV} (hbl : γ.bl t) (hB : (σ.less y).B t = some us) : ¬ LentS γ σ y (γ.bb t) := by
  obtain ⟨hB, hi⟩ := less_B hB
  intro h
  rcases h with ⟨c, n, tk', h1, h2, h3, h4⟩ | ⟨b, n, k, h1, h2, he⟩
  · exact hs.btd t n us tk' hbl h2 hB h3 h4
  · obtain ⟨vs, hvs⟩ := look_isSome (ho.rb b n k h1)
    obtain ⟨q, hq, ws, hws, -⟩ := passB_spec hpb hvs
    rw [ho.blook.2 h1] at hq; cases hq
    have hne : t ≠ n := by
      rintro rfl
      rw [invB_of_mem ho.b2 h1] at hi; cases hi
    exact hs.bds t n us ws hne hbl h2 hB hws he
theorem view_keeps (hs : OSim cx γ σ.T σ.B w) : Keeps (view cx γ σ y w) w := by
  unfold view
  split
  · exact hs.frm.keeps
  · exact hide_keeps
theorem view_of (hs : OSim cx γ σ.T σ.B w) (ho : WayOk y σ pt pb) (hpb : PassB y σ (σ.less y) pb) : Keeps cx.w0 (view cx γ σ y w) := by
  unfold view
  split
  · exact Keeps.refl _
  · intro a u hu
    have h1 := hs.frm.keeps a u hu
    have h0 := cx.keep0 a u hu
    have hlt := World.block_lt_of_cell? cx.we a h0
    have hn : ¬ LentS γ σ y a.block := fun h => by
      have hsp : a = ⟨a.block, a.off, none⟩ := by
        have : a.spot = none := by
          unfold World.cell? at h0
          split at h0
          · split at h0
            · cases h0
            · rename_i hs; simpa using hs
          · cases h0
        cases a; simp_all
      rcases lentS_fr hs ho hpb h with h | h
      · omega
      · rw [hsp, cx.vw _ _ h] at hu; cases hu
    unfold World.cell? at h1 ⊢
    rw [hide_off hn]; exact h1
theorem view_hid (hm : y.md = false) {g o : Nat} (h : LentS γ σ y g) : (view cx γ σ y w).cell? ⟨g, o, none⟩ = none := by
  unfold view
  rw [hm]
  exact hide_on (a := ⟨g, o, none⟩) h
theorem view_vw (hs : OSim cx γ σ.T σ.B w) (ho : WayOk y σ pt pb) (hpb : PassB y σ (σ.less y) pb) {g o : Nat} (h : LentS γ σ y g) : (view cx γ σ y w).cell? ⟨g, o, none⟩ = none := by
  by_cases hm : y.md = false
  · exact view_hid hm h
  · have hm' : y.md = true := by simpa using hm
    unfold view
    rw [hm']
    simp only
    rcases lentS_fr hs ho hpb h with h | h
    · cases hc : cx.w0.cell? ⟨g, o, none⟩ with
      | none => rfl
      | some u =>
        have := World.block_lt_of_cell? cx.we ⟨g, o, none⟩ (cx.keep0 _ u hc)
        simp only at this
        omega
    · exact cx.vw _ _ h
theorem less_vw (hs : OSim cx γ σ.T σ.B w) (ho : WayOk y σ pt pb) (hpb : PassB y σ (σ.less y) pb) (hm : y.md = false) : VwOk cx.w0 γ (σ.less y).T (σ.less y).B (view cx γ σ y w) := by
  have hsame : ∀ g, ¬ LentS γ σ y g → (view cx γ σ y w).heap[g]? = w.heap[g]? := fun g hg => by
    unfold view; rw [hm]; exact hide_off hg
  refine ⟨view_of hs ho hpb, fun t tk h1 h2 => ?_, fun b vs h1 h2 => ?_, fun t tk h1 h2 => ?_⟩
  · exact (hs.tok t tk h1 (less_T h2).1).keep fun g hg => hsame g (less_tok hs ho hpb h1 h2 g hg)
  · obtain ⟨us, h3, h4⟩ := hs.box b vs h1 (less_B h2).1
    exact ⟨us, h3, h4.keep (hsame _ (less_box hs ho hpb h1 h2))⟩
  · exact (hs.hds t tk h1 (less_T h2).1).keep (hs.tok t tk h1 (less_T h2).1).own fun g hg => hsame g (less_tok hs ho hpb h1 h2 g hg)
theorem none_ext (γ : Gh) : Gh.Ext Gh.none γ := ⟨fun _ h => h.elim, fun _ h => h.elim, fun _ h => h.elim, fun _ h => h.elim, fun _ h => h.elim, fun _ _ h => h.elim, fun _ _ h => h.elim⟩
theorem pas_cl (hs : OSim cx γ σ.T σ.B w) (ho : WayOk y σ pt pb) (hpb : PassB y σ (σ.less y) pb) {a a' : AV} {u : Value} (h : cl (if y.md then fun _ => none else (σ.less y).T) (if y.md then fun _ => none else (σ.less y).B) a = some a') (hv : VSim cx.w0 γ a u) : VSim (view cx γ σ y w) (γ.cee σ y) a' u := by
  by_cases hm : y.md = true
  · simp only [hm, if_true] at h
    have hvw : VwOk cx.w0 γ (fun _ => none) (fun _ => none) cx.w0 := ⟨Keeps.refl _, by simp, by simp, by simp⟩
    have := cl_sound hvw hv h
    unfold view
    rw [hm]
    exact VSim.mono (Keeps.refl _) (none_ext _) this
  · have hm' : y.md = false := by simpa using hm
    simp only [hm'] at h
    have := cl_sound (less_vw hs ho hpb hm') hv h
    exact VSim.mono (Keeps.refl _) (none_ext _) this
mutual
theorem pas_sound (hs : OSim cx γ σ.T σ.B w) (ho : WayOk y σ pt pb) (hpb : PassB y σ (σ.less y) pb) (hcv : ∀ n a z, look y.cv n = some (a, z) → ∀ u, VSim cx.w0 γ a u → VSim cx.w0 γ (.own n) u) :
    ∀ {a a' : AV} {u : Value}, PasA y (σ.less y) a a' → VSim cx.w0 γ a u → VSim (view cx γ σ y w) (γ.cee σ y) a' u := by
  intro a a' u h hv
  cases a' with
  | own c =>
    have h' : ∃ n, look y.rt c = some n ∧ (a = .own n ∨ ∃ z, look y.cv n = some (a, z)) := by cases a <;> simpa only [PasA] using h
    obtain ⟨n, hn, h'⟩ := h'
    have hv' : VSim cx.w0 γ (.own n) u := by
      rcases h' with rfl | ⟨z, hz⟩
      · exact hv
      · exact hcv n a z hz u hv
    simp only [VSim] at hv' ⊢
    have e : (γ.cee σ y).tv c = γ.tv n := by show γ.tv (y.m c) = _; rw [m_eq hn]
    rw [e]
    exact ⟨⟨⟨n, hn, hv'.1.1⟩, hv'.1.2⟩, hv'.2⟩
  | box b off =>
    have h' : ∃ q, look y.rb b = some q ∧ a = .box q.1 (q.2 + off) := by cases a <;> simpa only [PasA] using h
    obtain ⟨q, hq, rfl⟩ := h'
    simp only [VSim] at hv ⊢
    have e1 : (γ.cee σ y).bb b = γ.bb q.1 := by show γ.bb (y.mb b).1 = _; rw [mb_eq hq]
    have e2 : (γ.cee σ y).bo b = γ.bo q.1 + q.2 := by show γ.bo (y.mb b).1 + (y.mb b).2 = _; rw [mb_eq hq]
    rw [e1, e2]
    exact ⟨⟨q, hq, hv.1⟩, by rw [hv.2, Nat.add_assoc]⟩
  | elt c sz i off =>
    have h' : ∃ n, look y.rt c = some n ∧ a = .elt n sz i off := by cases a <;> simpa only [PasA] using h
    obtain ⟨n, hn, rfl⟩ := h'
    simp only [VSim] at hv ⊢
    have e : (γ.cee σ y).tv c = γ.tv n := by show γ.tv (y.m c) = _; rw [m_eq hn]
    rw [e]
    exact ⟨⟨n, hn, hv.1⟩, hv.2⟩
  | agg vs' =>
    cases a with
    | agg vs =>
      simp only [PasA] at h
      simp only [VSim] at hv ⊢
      obtain ⟨us, rfl, hv⟩ := hv
      exact ⟨us, rfl, pasL_sound hs ho hpb hcv h hv⟩
    | _ => simp only [PasA] at h; exact pas_cl hs ho hpb h hv
  | fn f' vs' =>
    cases a with
    | fn f vs =>
      simp only [PasA] at h
      obtain ⟨rfl, h⟩ := h
      simp only [VSim] at hv ⊢
      obtain ⟨us, rfl, hv⟩ := hv
      exact ⟨us, rfl, pasL_sound hs ho hpb hcv h hv⟩
    | _ => simp only [PasA] at h; exact pas_cl hs ho hpb h hv
  | _ => exact pas_cl hs ho hpb (by cases a <;> simpa only [PasA] using h) hv
theorem pasL_sound (hs : OSim cx γ σ.T σ.B w) (ho : WayOk y σ pt pb) (hpb : PassB y σ (σ.less y) pb) (hcv : ∀ n a z, look y.cv n = some (a, z) → ∀ u, VSim cx.w0 γ a u → VSim cx.w0 γ (.own n) u) :
    ∀ {as as' : List AV} {us : List Value}, PasL y (σ.less y) as as' → VSims cx.w0 γ as us → VSims (view cx γ σ y w) (γ.cee σ y) as' us := by
  intro as as' us h hv
  cases as with
  | nil =>
    cases as' with
    | nil => simpa only [VSims] using hv
    | cons a' as' => simp [PasL] at h
  | cons a as =>
    cases as' with
    | nil => simp [PasL] at h
    | cons a' as' =>
      simp only [PasL] at h
      simp only [VSims] at hv ⊢
      obtain ⟨u, us', rfl, h1, h2⟩ := hv
      exact ⟨u, us', rfl, pas_sound hs ho hpb hcv h.1 h1, pasL_sound hs ho hpb hcv h.2 h2⟩
end
end
end Go.Proofs.Ytfbnlkaggggmiaa.Ab
