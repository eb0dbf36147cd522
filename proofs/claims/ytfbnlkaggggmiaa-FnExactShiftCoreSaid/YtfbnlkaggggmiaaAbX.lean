/-
  The abstract walk as rules, last part: the rules with what they must not go into hidden.
-/
import Derived.Test.YtfbnlkaggggmiaaAbW
namespace Go.Proofs.Ytfbnlkaggggmiaa.Ab
set_option linter.unusedVariables false
open Go.RowKit
section
variable {P : Program} {σ : St} {K : St → Prop} {pos : Nat} {dst : Option Tmp} {t t' s d : TypeId} {x y a b c g l : Operand} {f i : Nat} {op : BinOp}
def slY (t : TI) (K : TypeId → Prop) (_ : Wrap K) : Prop := slX t K
@[go_sem ↓] theorem slX_go {t : TI} {K : TypeId → Prop} : slX t K = slY t K ⟨⟩ := rfl
@[go_sem] theorem slY_sl {e : TypeId} {K : TypeId → Prop} {w : Wrap K} : slY (.sl e) K w = K e := rfl
def kindY (t : TI) (K : IntKind → Prop) (_ : Wrap K) : Prop := kindX t K
@[go_sem ↓] theorem kindX_go {t : TI} {K : IntKind → Prop} : kindX t K = kindY t K ⟨⟩ := rfl
@[go_sem] theorem kindY_int {k : IntKind} {K : IntKind → Prop} {w : Wrap K} : kindY (.int k) K w = K k := rfl
def stY (t : TI) (K : List (Nat × TypeId) → Prop) (_ : Wrap K) : Prop := stX' t K
@[go_sem ↓] theorem stX_go {t : TI} {K : List (Nat × TypeId) → Prop} : stX' t K = stY t K ⟨⟩ := rfl
@[go_sem] theorem stY_st {fs : List (Nat × TypeId)} {K : List (Nat × TypeId) → Prop} {w : Wrap K} : stY (.st fs) K w = K fs := rfl
def idxY (rows : List (List D)) (n : Int) (sz : Nat) (K : List D → Prop) (_ : Wrap K) : Prop := idxX rows n sz K
@[go_sem ↓] theorem idxX_go {rows : List (List D)} {n : Int} {sz : Nat} {K : List D → Prop} : idxX rows n sz K = idxY rows n sz K ⟨⟩ := rfl
theorem idx_i {rows : List (List D)} {n sz : Nat} {K : List D → Prop} {w : Wrap K} {row : List D} (h : rows[n]? = some row) (hl : row.length = sz) (hk : K row) : idxY rows (n : Int) sz K w := idx_at h hl hk
def rowY {α : Type} (v : α) (K : α → Prop) (_ : Wrap K) : Prop := rowX v K
@[go_sem ↓] theorem rowX_go {α : Type} {v : α} {K : α → Prop} : rowX v K = rowY v K ⟨⟩ := rfl
theorem row_i {α : Type} {v : α} {K : α → Prop} {w : Wrap K} (y : α) (h : v = y) (hk : K y) : rowY v K w := ⟨y, h, hk⟩
def callY (P : Program) (L : Bool) (pos : Nat) (f : FuncId) (args : List AV) (as : Option (List AV)) (dst : Option Tmp) (σ : St) (K : St → Prop) (_ : Wrap K) (w : Wrap L) : Prop := callX P L pos f args as dst σ K w
@[go_sem ↓] theorem callX_go {L : Bool} {wL : Wrap L} {f : FuncId} {args : List AV} {as : Option (List AV)} : callX P L pos f args as dst σ K wL = callY P L pos f args as dst σ K ⟨⟩ wL := rfl
theorem call_i {f : FuncId} {args bs : List AV} {w : Wrap K} {rv : RV} (h : AC P f bs rv) (hk : andX (freshT σ (conv (pos * 16) rv).2) (K (σ.add dst ⟨(conv (pos * 16) rv).1, (conv (pos * 16) rv).2, []⟩))) {L : Bool} {wL : Wrap L} : callY P L pos f args (some bs) dst σ K w wL := call_ac h hk.1 hk.2
theorem call_e {f : FuncId} {args bs : List AV} {w : Wrap K} {rv : RV} {o : Option (List AV)} (e : o = some bs) (h : AC P f bs rv) (hk : andX (freshT σ (conv (pos * 16) rv).2) (K (σ.add dst ⟨(conv (pos * 16) rv).1, (conv (pos * 16) rv).2, []⟩))) {L : Bool} {wL : Wrap L} : callY P L pos f args o dst σ K w wL := by
  subst e; exact call_ac h hk.1 hk.2
/-- What is asked of a way to call, of the numbers alone. -/
def condB (y : Way) (as : List AV) (pt : List (Nat × Tok)) (pb : List (Nat × List AV)) (qt : List (Nat × Tok)) (qb : List (Nat × List AV)) : Bool :=
  decide (((y.rt ++ y.nt).map (·.2)).Nodup) && decide (((y.rt ++ y.nt).map (·.1)).Nodup) && decide (((y.rb.map (·.2.1)) ++ y.nb.map (·.2)).Nodup) && decide (((y.rb.map (·.1)) ++ y.nb.map (·.1)).Nodup) &&
  (y.rt.all fun p => (look pt p.1).isSome) && (y.rb.all fun p => (look pb p.1).isSome) && (y.nt.all fun p => (look pt p.1).isNone) && (y.nb.all fun p => (look pb p.1).isNone) && decide ((pt.map (·.1)).Nodup) && decide ((pb.map (·.1)).Nodup) &&
  (pb.all fun p => (look qb p.1).isSome) && freeCv y.rt y.cv && liveW as pt pb && (y.rt.all fun p => decide (p.1 < 1000) || (look qt p.1).isNone)
def freshG : List (Nat × Nat) → List (Nat × Option Tok) → Prop
  | [], _ => True
  | (_, n) :: r, t => look t n = none ∧ freshG r t
def freshGB : List (Nat × Nat) → List (Nat × Option (List AV)) → Prop
  | [], _ => True
  | (_, n) :: r, t => look t n = none ∧ freshGB r t
def condG (y : Way) (args as : List AV) (pt : List (Nat × Tok)) (pb : List (Nat × List AV)) (σ1 : St) : Prop :=
  freshG y.nt σ1.t ∧ freshGB y.nb σ1.b ∧ PassT y.rt σ1 pt ∧ PassB y σ1 (σ1.less y) pb ∧ PasL y (σ1.less y) args as
theorem freshG_spec {t : List (Nat × Option Tok)} : ∀ {l : List (Nat × Nat)}, freshG l t → ∀ p ∈ l, (look t p.2).isNone = true
  | [], _, p, h => by cases h
  | (c, n) :: l, hf, p, h => by
    simp only [freshG] at hf
    rcases List.mem_cons.1 h with rfl | h
    · rw [hf.1]; rfl
    · exact freshG_spec hf.2 p h
theorem freshGB_spec {t : List (Nat × Option (List AV))} : ∀ {l : List (Nat × Nat)}, freshGB l t → ∀ p ∈ l, (look t p.2).isNone = true
  | [], _, p, h => by cases h
  | (c, n) :: l, hf, p, h => by
    simp only [freshGB] at hf
    rcases List.mem_cons.1 h with rfl | h
    · rw [hf.1]; rfl
    · exact freshGB_spec hf.2 p h
theorem call_g {L : Bool} {wL : Wrap L} {f : FuncId} {args : List AV} {o : Option (List AV)} {w : Wrap K} {as : List AV} {pt : List (Nat × Tok)} {pb : List (Nat × List AV)} {r : AV} {qt : List (Nat × Tok)} {qb : List (Nat × List AV)} (y : Way) (hL : L = true) (h : AG P f as pt pb r qt qb) (hB : condB y as pt pb qt qb = true)
    (hc : CarveK y.cv σ fun σ1 => andX (condG y args as pt pb σ1) (UncarveK y.cv (σ1.after y qt qb) fun σ2 => K (σ2.put dst (bak y r)))) : callY P L pos f args o dst σ K w wL := by
  refine .inr ⟨hL, y, as, pt, pb, r, qt, qb, h, carve_mono (fun σ1 h => ?_) hc⟩
  unfold condB at hB
  simp only [Bool.and_eq_true, decide_eq_true_eq, and_assoc] at hB
  obtain ⟨b1, b2, b3, b4, b5, b6, b7, b8, b9, b10, b11, b12, b13, b14⟩ := hB
  obtain ⟨⟨h1, h2, h3, h4, h5⟩, h6⟩ := h
  refine ⟨⟨b1, b2, b3, b4, b5, b6, ?_, ?_, b9, b10⟩, h3, h4, h5, b11, b12, b13, b14, h6⟩
  · rw [List.all_eq_true] at b7 ⊢
    intro p hp
    rw [b7 p hp, freshG_spec h1 p hp]; rfl
  · rw [List.all_eq_true] at b8 ⊢
    intro p hp
    rw [b8 p hp, freshGB_spec h2 p hp]; rfl
attribute [go_sem] ne_eq true_imp_iff implies_true false_imp_iff flatAt D.flat kept condG freshG freshGB PassT St.less goneT goneB backT backB newT newB St.after bak baks PassB
@[go_sem ↓] theorem carve_nil : CarveK [] σ K = K σ := by rw [CarveK]
@[go_sem ↓] theorem carve_nils {n : Nat} {z : Option Nat} {r : List (Nat × AV × Option Nat)} {s : List (Nat × AV)} {t : List (Nat × Option Tok)} {b : List (Nat × Option (List AV))} : CarveK ((n, .nils, z) :: r) ⟨s, t, b⟩ K = andX (look t n = none) (CarveK r ⟨s, (n, some ⟨[], z, 0⟩) :: t, b⟩ K) := by rw [CarveK]; rfl
@[go_sem ↓] theorem carve_sub {n t' g sz i j : Nat} {r : List (Nat × AV × Option Nat)} {s : List (Nat × AV)} {t : List (Nat × Option Tok)} {b : List (Nat × Option (List AV))} : CarveK ((n, .sub t' g [(sz, i, j)], none) :: r) ⟨s, t, b⟩ K =
    andX (look t n = none ∧ n ≠ t') (optX (look t t').join fun tk => andX (tk.gen = g) (optX (getP [(sz, i, j)] tk.rows) fun rows => rowX (putR [(sz, i, j)] tk.rows .gone) fun rows' => CarveK r ⟨s, (n, some ⟨rows, none, 0⟩) :: (t', some ⟨rows', tk.sz, g⟩) :: t, b⟩ K)) := by
  rw [CarveK]
  simp only [andX, optX, rowX_eq, List.length_cons, List.length_nil, true_and, Nat.zero_add]
  refine propext ⟨?_, ?_⟩
  · rintro ⟨h2, tk, rows, h4, h5, h6, h7, h8⟩; exact ⟨⟨h2, h7⟩, tk, h4, h5, rows, h6, h8⟩
  · rintro ⟨⟨h2, h7⟩, tk, h4, h5, rows, h6, h8⟩; exact ⟨h2, tk, rows, h4, h5, h6, h7, h8⟩
@[go_sem ↓] theorem unc_nil : UncarveK [] σ K = K σ := by rw [UncarveK]
def unX (n : Nat) (K : St → Prop) (σ : St) : Prop := K { σ with t := (n, none) :: σ.t }
@[go_sem ↓] theorem unX_mk {n : Nat} {s : List (Nat × AV)} {t : List (Nat × Option Tok)} {b : List (Nat × Option (List AV))} : unX n K ⟨s, t, b⟩ = K ⟨s, (n, none) :: t, b⟩ := rfl
@[go_sem ↓] theorem unc_nils {n : Nat} {z : Option Nat} {r : List (Nat × AV × Option Nat)} : UncarveK ((n, .nils, z) :: r) σ K = UncarveK r σ (unX n K) := by rw [UncarveK]; rfl; all_goals (intros; simp_all)
def unS (n t' g : Nat) (p : Pth) (K : St → Prop) (σ : St) : Prop := match σ.T n with
  | some tn => ∃ tk, σ.T t' = some tk ∧ getC p tk.rows = some .gone ∧ n ≠ t' ∧ K { σ with t := (n, none) :: (t', some ⟨putR p tk.rows (.sl tn.rows), tk.sz, if tn.gen = 0 ∧ tk.gen = g then g else tk.gen + tn.gen + 1⟩) :: σ.t }
  | none => K σ
@[go_sem ↓] theorem unc_sub {n t' g : Nat} {p : Pth} {z : Option Nat} {r : List (Nat × AV × Option Nat)} : UncarveK ((n, .sub t' g p, z) :: r) σ K = UncarveK r σ (unS n t' g p K) := by rw [UncarveK]; rfl
def unO (o : Option Tok) (n t' g : Nat) (p : Pth) (K : St → Prop) (σ : St) : Prop := match o with
  | some tn => andX (n ≠ t') (optX (σ.T t') fun tk => andX (getC p tk.rows = some .gone) (rowX (putR p tk.rows (.sl tn.rows)) fun rows => K ⟨σ.s, (n, none) :: (t', some ⟨rows, tk.sz, if tn.gen = 0 ∧ tk.gen = g then g else tk.gen + tn.gen + 1⟩) :: σ.t, σ.b⟩))
  | none => K σ
@[go_sem ↓] theorem unS_mk {n t' g : Nat} {p : Pth} {s : List (Nat × AV)} {t : List (Nat × Option Tok)} {b : List (Nat × Option (List AV))} : unS n t' g p K ⟨s, t, b⟩ = unO (look t n).join n t' g p K ⟨s, t, b⟩ := by
  unfold unS unO
  have e : St.T ⟨s, t, b⟩ n = (look t n).join := rfl
  rw [e]
  cases (look t n).join with
  | none => rfl
  | some tn =>
    simp only [andX, optX, rowX_eq]
    refine propext ⟨?_, ?_⟩
    · rintro ⟨tk, h1, h2, h3, h4⟩; exact ⟨h3, tk, h1, h2, h4⟩
    · rintro ⟨h3, tk, h1, h2, h4⟩; exact ⟨tk, h1, h2, h3, h4⟩
@[go_sem] theorem unO_some {n t' g : Nat} {p : Pth} {tn : Tok} : unO (some tn) n t' g p K σ = andX (n ≠ t') (optX (σ.T t') fun tk => andX (getC p tk.rows = some .gone) (rowX (putR p tk.rows (.sl tn.rows)) fun rows => K ⟨σ.s, (n, none) :: (t', some ⟨rows, tk.sz, if tn.gen = 0 ∧ tk.gen = g then g else tk.gen + tn.gen + 1⟩) :: σ.t, σ.b⟩)) := rfl
@[go_sem] theorem unO_none {n t' g : Nat} {p : Pth} : unO none n t' g p K σ = K σ := rfl
theorem set_at {α : Type} {l : List α} {i : Nat} {x y : α} (h : l[i]? = some x) : (l.set i y)[i]? = some y := List.getElem?_set_self (lt_of_get h)
theorem getP_1 {rows r : List (List D)} {sz i j : Nat} {row : List D} (h : rows[i]? = some row) (hl : row.length = sz) (hj : row[j]? = some (.sl r)) : getP [(sz, i, j)] rows = some r := by
  simp only [getP, h, hl, if_true, hj]
theorem getC_1 {rows : List (List D)} {sz i j : Nat} {row : List D} {d : D} (h : rows[i]? = some row) (hl : row.length = sz) (hj : row[j]? = some d) : getC [(sz, i, j)] rows = some d := by
  simp only [getC, h, hl, if_true, hj]
theorem putR_1 {rows : List (List D)} {sz i j : Nat} {row : List D} {d d' : D} (h : rows[i]? = some row) (hj : row[j]? = some d') : putR [(sz, i, j)] rows d = rows.set i (row.set j d) := by
  unfold putR
  rw [Ab.put, h]
  simp only [hj, Ab.put]
section
variable {y : Way} {σ0 : St}
@[go_sem] theorem pasL_nil : PasL y σ0 [] [] = True := by simp only [PasL]
@[go_sem] theorem pasL_cons {a b : AV} {as bs : List AV} : PasL y σ0 (a :: as) (b :: bs) = (PasA y σ0 a b ∧ PasL y σ0 as bs) := by simp only [PasL]
@[go_sem] theorem pas_own {n c : Nat} : PasA y σ0 (.own n) (.own c) = (look y.rt c = some n ∨ ∃ z, ∃ m, look y.rt c = some m ∧ look y.cv m = some (.own n, z)) := by
  simp only [PasA]
  refine propext ⟨?_, ?_⟩
  · rintro ⟨m, h1, h2 | ⟨z, h2⟩⟩
    · cases h2; exact .inl h1
    · exact .inr ⟨z, m, h1, h2⟩
  · rintro (h | ⟨z, m, h1, h2⟩)
    · exact ⟨n, h, .inl rfl⟩
    · exact ⟨m, h1, .inr ⟨z, h2⟩⟩
def cvX (o : Option (AV × Option Nat)) (a : AV) : Prop := match o with | some x => x.1 = a | none => False
theorem cvX_iff {o : Option (AV × Option Nat)} {a : AV} : (∃ z, o = some (a, z)) = cvX o a := by
  unfold cvX
  cases o with
  | none => simp
  | some x => obtain ⟨b, z⟩ := x; simp
def rtX (o : Option Nat) (K : Nat → Prop) : Prop := match o with | some n => K n | none => False
@[go_sem] theorem rtX_some {n : Nat} {K : Nat → Prop} : rtX (some n) K = K n := rfl
@[go_sem] theorem cvX_some {x : AV × Option Nat} {a : AV} : cvX (some x) a = (x.1 = a) := rfl
theorem rtX_iff {o : Option Nat} {p : Nat → Prop} : (∃ n, o = some n ∧ p n) = rtX o p := by
  cases o <;> simp [rtX]
@[go_sem] theorem pas_sub {t g c : Nat} {p : Pth} : PasA y σ0 (.sub t g p) (.own c) = rtX (look y.rt c) fun n => cvX (look y.cv n) (.sub t g p) := by
  rw [← rtX_iff]
  simp only [PasA, reduceCtorEq, false_or, cvX_iff]
@[go_sem] theorem pas_nils {c : Nat} : PasA y σ0 .nils (.own c) = rtX (look y.rt c) fun n => cvX (look y.cv n) .nils := by
  rw [← rtX_iff]
  simp only [PasA, reduceCtorEq, false_or, cvX_iff]
@[go_sem] theorem pas_box {n off b off' : Nat} : PasA y σ0 (.box n off) (.box b off') = match look y.rb b with | some q => n = q.1 ∧ off = q.2 + off' | none => False := by
  simp only [PasA, AV.box.injEq]
  cases look y.rb b <;> simp
@[go_sem] theorem pas_elt {n sz i off c sz' i' off' : Nat} : PasA y σ0 (.elt n sz i off) (.elt c sz' i' off') = rtX (look y.rt c) fun m => n = m ∧ sz = sz' ∧ i = i' ∧ off = off' := by
  rw [← rtX_iff]
  simp only [PasA, AV.elt.injEq]
@[go_sem] theorem pas_agg {vs us : List AV} : PasA y σ0 (.agg vs) (.agg us) = PasL y σ0 vs us := by simp only [PasA]
@[go_sem] theorem pas_fn {f f' : FuncId} {vs us : List AV} : PasA y σ0 (.fn f vs) (.fn f' us) = (f = f' ∧ PasL y σ0 vs us) := by simp only [PasA]
def clW (y : Way) (σ0 : St) (a : AV) : Option AV := cl (if y.md = true then fun _ => none else σ0.T) (if y.md = true then fun _ => none else σ0.B) a
@[go_sem] theorem pas_int {a : AV} {k : IntKind} {n : Int} : PasA y σ0 a (.int k n) = (clW y σ0 a = some (.int k n)) := by cases a <;> simp only [PasA, clW]
@[go_sem] theorem pas_bool {a : AV} {b : Bool} : PasA y σ0 a (.bool b) = (clW y σ0 a = some (.bool b)) := by cases a <;> simp only [PasA, clW]
@[go_sem] theorem pas_str {a : AV} {s : ByteArray} : PasA y σ0 a (.str s) = (clW y σ0 a = some (.str s)) := by cases a <;> simp only [PasA, clW]
@[go_sem] theorem pas_ro {a : AV} {rows : List (List D)} : PasA y σ0 a (.ro rows) = (clW y σ0 a = some (.ro rows)) := by cases a <;> simp only [PasA, clW]
@[go_sem] theorem pas_rop {a : AV} {vs : List AV} {off : Nat} : PasA y σ0 a (.rop vs off) = (clW y σ0 a = some (.rop vs off)) := by cases a <;> simp only [PasA, clW]
@[go_sem] theorem pas_nilp {a : AV} : PasA y σ0 a .nilp = (clW y σ0 a = some .nilp) := by cases a <;> simp only [PasA, clW]
@[go_sem] theorem clW_md {cv rt rb nt nb} {a : AV} : clW ⟨cv, rt, rb, nt, nb, true⟩ σ0 a = cl (fun _ => none) (fun _ => none) a := by simp [clW]
@[go_sem] theorem clW_no {cv rt rb nt nb} {a : AV} : clW ⟨cv, rt, rb, nt, nb, false⟩ σ0 a = cl σ0.T σ0.B a := by simp [clW]
end
def nilY (P : Program) (t : TypeId) (v : AV) (σ : St) (K : Bool → Prop) (_ : Wrap K) : Prop := nilT P t v σ K
theorem nil_i {rows : List (List D)} {K : Bool → Prop} {w : Wrap K} (h : slP (ti P t)) (h0 : rows = [] → K true) (h1 : K false) : nilY P t (.ro rows) σ K w := nilT_ro h h0 h1
@[go_sem] theorem nilY_nils {K : Bool → Prop} {w : Wrap K} : nilY P t .nils σ K w = andX (slP (ti P t)) (K true) := nilT_nils
@[go_sem] theorem nilY_bsl {b n sz : Nat} {K : Bool → Prop} {w : Wrap K} : nilY P t (.bsl b n sz) σ K w = andX (slP (ti P t)) (K false) := nilT_bsl

@[go_sem ↓] theorem w_pick : opX P pos dst (.pick c a b) σ K = valX (σ.e c) fun u => valX (σ.e a) fun v => valX (σ.e b) fun w => pickX u v w fun v => K (σ.put dst v) := o_pick
@[go_sem ↓] theorem w_load : opX P pos dst (.load t a) σ K = valX (σ.e a) fun u => loadX P t u σ fun v => K (σ.put dst v) := o_load
@[go_sem ↓] theorem w_nilCheck : opX P pos dst (.nilCheck x) σ K = valX (σ.e x) fun u => nilX u fun v => K (σ.put dst v) := o_nilCheck
@[go_sem ↓] theorem w_bin_tmp {y : Tmp} : opX P pos dst (.binOp op t x (.tmp y) t') σ K = valX (σ.e x) fun u => valX (σ.g y) fun v => binX P op t u v fun v => K (σ.put dst v) := o_bin_tmp
@[go_sem ↓] theorem w_bin_int {k : IntKind} {n : Int} : opX P pos dst (.binOp op t x (.const (.int k n)) t') σ K = valX (σ.e x) fun u => binX P op t u (.int k n) fun v => K (σ.put dst v) := o_bin_int
@[go_sem ↓] theorem w_bin_bool {b : Bool} : opX P pos dst (.binOp op t x (.const (.bool b)) t') σ K = valX (σ.e x) fun u => binX P op t u (.bool b) fun v => K (σ.put dst v) := o_bin_bool
@[go_sem ↓] theorem w_bin_str {b : ByteArray} : opX P pos dst (.binOp op t x (.const (.string b)) t') σ K = valX (σ.e x) fun u => binX P op t u (.str b) fun v => K (σ.put dst v) := o_bin_str
@[go_sem ↓] theorem w_bin_nilp : opX P pos dst (.binOp op t x (.const (.pointer none)) t') σ K = valX (σ.e x) fun u => binX P op t u .nilp fun v => K (σ.put dst v) := o_bin_nilp
@[go_sem ↓] theorem w_eq_nil : opX P pos dst (.binOp .eql t x (.const (.slice none 0 0)) t') σ K = valX (σ.e x) fun u => nilY P t u σ (fun b => K (σ.put dst (.bool b))) ⟨⟩ := o_eq_nil
@[go_sem ↓] theorem w_ne_nil : opX P pos dst (.binOp .neq t x (.const (.slice none 0 0)) t') σ K = valX (σ.e x) fun u => nilY P t u σ (fun b => K (σ.put dst (.bool !b))) ⟨⟩ := o_ne_nil
@[go_sem ↓] theorem w_unOp {op : UnOp} : opX P pos dst (.unOp op t x) σ K = valX (σ.e x) fun u => unoX op u fun v => K (σ.put dst v) := o_unOp
@[go_sem ↓] theorem w_convert : opX P pos dst (.convert s d x) σ K = valX (σ.e x) fun u => convX P s d u σ fun v => K (σ.put dst v) := o_convert
@[go_sem ↓] theorem w_fieldAddr : opX P pos dst (.fieldAddr s x f) σ K = valX (σ.e x) fun u => faX P s u f fun v => K (σ.put dst v) := o_fieldAddr
@[go_sem ↓] theorem w_field : opX P pos dst (.field s x f) σ K = valX (σ.e x) fun u => fdX P s u f fun v => K (σ.put dst v) := o_field
@[go_sem ↓] theorem w_indexAddr : opX P pos dst (.indexAddr t x y) σ K = valX (σ.e x) fun u => valX (σ.e y) fun v => iaX P t u v σ fun v => K (σ.put dst v) := o_indexAddr
@[go_sem ↓] theorem w_extract : opX P pos dst (.extract x i) σ K = valX (σ.e x) fun u => extX u i fun v => K (σ.put dst v) := o_extract
@[go_sem ↓] theorem w_len : opX P pos dst (.call ⟨.builtin .len, List.toArray [x], List.toArray [t]⟩) σ K = valX (σ.e x) fun u => lenX P t u σ fun v => K (σ.put dst v) := o_len
@[go_sem ↓] theorem w_max {ts : Array TypeId} : opX P pos dst (.call ⟨.builtin .max, List.toArray [x, y], ts⟩) σ K = valX (σ.e x) fun u => valX (σ.e y) fun v => twoX (fun n m => if n < m then m else n) u v fun v => K (σ.put dst v) := o_max
@[go_sem ↓] theorem w_min {ts : Array TypeId} : opX P pos dst (.call ⟨.builtin .min, List.toArray [x, y], ts⟩) σ K = valX (σ.e x) fun u => valX (σ.e y) fun v => twoX (fun n m => if m < n then m else n) u v fun v => K (σ.put dst v) := o_min
@[go_sem ↓] theorem w_box : opX P pos dst (.box t x) σ K = valX (cellsOf (σ.e x)) fun cs => bxX pos cs dst (.box pos 0) σ K := o_box
@[go_sem ↓] theorem w_alloc : opX P pos dst (.alloc t) σ K = andX (0 < (tz P t).length) (valX ((tz P t).map zAV) fun vs => bxX pos (some vs) dst (.box pos 0) σ K) := o_alloc
@[go_sem ↓] theorem w_build {parts : List (Nat × Operand)} : opX P pos dst (.build t parts.toArray) σ K = stX' (ti P t) fun fs => andX ((fs.all fun q => decide (0 < tsz P q.2)) = true ∧ 0 < (tz P t).length) (valX ((tz P t).map zAV) fun vs => valX (pvs σ parts) fun ps => bpX P fs vs ps fun v => K (σ.put dst v)) := o_build
@[go_sem ↓] theorem w_makeSlice : opX P pos dst (.makeSlice t l c) σ K = slX (ti P t) fun e => valX (σ.e l) fun u => valX (σ.e c) fun v => mkX P pos e u v dst σ K := o_makeSlice
@[go_sem ↓] theorem w_call {L : Bool} {wL : Wrap L} {args : List Operand} {ts : Array TypeId} : opL P L pos dst (.call ⟨.value g, args.toArray, ts⟩) σ K wL = valX (σ.e g) fun u => valX (evs σ args) fun vs => clX P L pos u vs dst σ K wL := o_call
@[go_sem ↓] theorem w_store : opX P pos dst (.store t a x) σ K = valX (σ.e a) fun u => valX (cellsOf (σ.e x)) fun cs => stX P t u cs σ fun σ' => K (σ'.put dst .any) := o_store
@[go_sem ↓] theorem w_append : opX P pos dst (.call ⟨.builtin .append, List.toArray [x, y], List.toArray [t, t]⟩) σ K = slX (ti P t) fun e => valX (σ.e x) fun u => valX (σ.e y) fun v => apX P pos e u v dst σ K := o_append
@[go_sem ↓] theorem apX_eq {e : TypeId} {u v : AV} : apX P pos e u v dst σ K = andX (0 < tsz P e ∧ (tz P e).length = tsz P e) (AppX e (tsz P e) u σ fun rows σ1 => AppY (tsz P e) v σ1 fun rows2 σ2 =>
      andX ((rows.length + rows2.length) * P.bytesOf e ≤ 140737488355328 ∧ rows.length + rows2.length ≤ maxLen) (andX (look σ2.t (pos * 16) = none) (rowX (rows ++ rows2) fun rows => K ((σ2.setT (pos * 16) ⟨rows, some (tsz P e), 0⟩).put dst (.own (pos * 16)))))) := by simp only [rowX_eq]; rfl
end
attribute [go_sem] zAV

/-! ### Long regions: lists of operations that stand as one behind the other -/
section
variable {P : Program} {σ : St} {K : St → Prop} {ops : Array Oper} {base cut i : Nat}
@[go_sem] theorem x_app_cons {x : Oper} {xs b : List Oper} {w1 : Wrap ops} {w2} {w3 : Wrap K} {w4 : Wrap cut} : aopsY P ops base cut i (List.append (x :: xs) b) σ K w1 w2 w3 w4 = aopsY P ops base cut i (x :: List.append xs b) σ K w1 ⟨⟩ w3 w4 := rfl
@[go_sem] theorem x_app_nil {b : List Oper} {w1 : Wrap ops} {w2} {w3 : Wrap K} {w4 : Wrap cut} : aopsY P ops base cut i (List.append [] b) σ K w1 w2 w3 w4 = aopsY P ops base cut i b σ K w1 ⟨⟩ w3 w4 := rfl
@[go_sem] theorem x_app_app {a b c : List Oper} {w1 : Wrap ops} {w2} {w3 : Wrap K} {w4 : Wrap cut} : aopsY P ops base cut i (List.append (List.append a b) c) σ K w1 w2 w3 w4 = aopsY P ops base cut i (List.append a (List.append b c)) σ K w1 ⟨⟩ w3 w4 := by
  unfold aopsY; rw [show List.append (List.append a b) c = List.append a (List.append b c) from List.append_assoc a b c]
@[go_sem ↓] theorem slotX_app_zero {dst : Tmp} {op : Op} {type : TypeId} {ps : String} {after : Array Edge} {g : Option (Nat × Bool)} {rest b : List Oper} {K : Tmp → Prop} : slotX (List.toArray (List.append (⟨some dst, op, type, ps, after, g⟩ :: rest) b)) 0 K = K dst := by
  show slotX (List.toArray (_ :: List.append rest b)) 0 K = K dst
  exact slotX_zero
@[go_sem ↓] theorem slotX_app_succ {o : Oper} {rest b : List Oper} {j : Nat} {K : Tmp → Prop} : slotX (List.toArray (List.append (o :: rest) b)) (j + 1) K = slotX (List.toArray (List.append rest b)) j K := by
  show slotX (List.toArray (o :: List.append rest b)) (j + 1) K = _
  exact slotX_succ
@[go_sem ↓] theorem slotX_app_nil {b : List Oper} {j : Nat} {K : Tmp → Prop} : slotX (List.toArray (List.append [] b)) j K = slotX b.toArray j K := rfl
@[go_sem ↓] theorem slotX_app_app {a b c : List Oper} {j : Nat} {K : Tmp → Prop} : slotX (List.toArray (List.append (List.append a b) c)) j K = slotX (List.toArray (List.append a (List.append b c))) j K := by
  rw [show List.append (List.append a b) c = List.append a (List.append b c) from List.append_assoc a b c]
@[go_sem] theorem all_app {a b : List Oper} {p : Oper → Bool} : List.all (List.append a b) p = (List.all a p && List.all b p) := List.all_append
end
end Go.Proofs.Ytfbnlkaggggmiaa.Ab
