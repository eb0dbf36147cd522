/-
  The abstract walk as rules, third part: memory, calls, results, loops.
-/
import Derived.Test.YtgigfdghecdlgaaAbU
import Derived.IntWalk
namespace Go.Proofs.Ytgigfdghecdlgaa.Ab
set_option linter.unusedVariables false
open Go.RowKit
section
variable {P : Program} {σ : St} {K : St → Prop} {Q : AE → St → Prop}

def strT (t : TI) : Prop := match t with | .str => True | _ => False
@[go_sem] theorem strT_str : strT .str = True := rfl
@[go_sem] theorem len_str {t} {s} {K} : lenX P t (.str s) σ K = andX (strT (ti P t)) (K (.int .i64 s.size)) := by
  simp only [lenX, LenA, andX, strT]
  generalize ti P t = q
  cases q <;> simp
@[go_sem] theorem len_ro {t} {rows} {K} : lenX P t (.ro rows) σ K = slX (ti P t) fun _ => K (.int .i64 rows.length) := by
  simp only [lenX, LenA, slX]
  generalize ti P t = q
  cases q <;> simp
@[go_sem] theorem len_nils {t} {K} : lenX P t .nils σ K = slX (ti P t) fun _ => K (.int .i64 0) := by
  simp only [lenX, LenA, slX]
  generalize ti P t = q
  cases q <;> simp
@[go_sem] theorem len_bsl {t} {b n sz} {K} : lenX P t (.bsl b n sz) σ K = slX (ti P t) fun _ => K (.int .i64 n) := by
  simp only [lenX, LenA, slX]
  generalize ti P t = q
  cases q <;> simp
@[go_sem] theorem len_own {t} {t'} {K} : lenX P t (.own t') σ K = slX (ti P t) fun _ => optX (σ.T t') fun tk => K (.int .i64 tk.rows.length) := by
  simp only [lenX, LenA, slX, optX]
  generalize ti P t = q
  cases q with
  | sl e => exact propext ⟨fun ⟨v, ⟨tk, h1, h2⟩, h3⟩ => ⟨tk, h1, h2 ▸ h3⟩, fun ⟨tk, h1, h3⟩ => ⟨_, ⟨tk, h1, rfl⟩, h3⟩⟩
  | _ => simp
@[go_sem] theorem len_sub {t} {t' g} {p} {K} : lenX P t (.sub t' g p) σ K = slX (ti P t) fun _ => optX (subR σ.T t' g p) fun rows => K (.int .i64 rows.length) := by
  simp only [lenX, LenA, slX, optX]
  generalize ti P t = q
  cases q with
  | sl e => exact propext ⟨fun ⟨v, ⟨tk, h1, h2⟩, h3⟩ => ⟨tk, h1, h2 ▸ h3⟩, fun ⟨tk, h1, h3⟩ => ⟨_, ⟨tk, h1, rfl⟩, h3⟩⟩
  | _ => simp

def mapX (t : TI) (K : TypeId → TypeId → Prop) : Prop := match t with | .map k e => K k e | _ => False
@[go_sem] theorem mapX_map {k e} {K} : mapX (.map k e) K = K k e := rfl
def mpcX (o : Option (List AV)) (K : KT → List (List D) → Prop) : Prop := ∃ q rows, o = some [.mpc q rows] ∧ K q rows
@[go_sem] theorem mpcX_some {q} {rows} {K} : mpcX (some [.mpc q rows]) K = K q rows := by
  simp only [mpcX, Option.some.injEq, List.cons.injEq, AV.mpc.injEq, and_true]
  exact propext ⟨fun ⟨q', r', ⟨h1, h2⟩, h3⟩ => h1 ▸ h2 ▸ h3, fun h => ⟨q, rows, ⟨rfl, rfl⟩, h⟩⟩
@[go_sem] theorem len_mpr {t} {b} {K} : lenX P t (.mpr b) σ K = mapX (ti P t) fun _ _ => mpcX (σ.B b) fun _ rows => K (.int .i64 rows.length) := by
  simp only [lenX, LenA, mapX, mpcX]
  generalize ti P t = q
  cases q with
  | map k e => exact propext ⟨fun ⟨v, ⟨q, rows, h1, h2⟩, h3⟩ => ⟨q, rows, h1, h2 ▸ h3⟩, fun ⟨q, rows, h1, h3⟩ => ⟨_, ⟨q, rows, h1, rfl⟩, h3⟩⟩
  | _ => simp

/-- Rows, to be told in another form. -/
def rowX {α : Type} (v : α) (K : α → Prop) : Prop := ∃ y, v = y ∧ K y
theorem rowX_eq {α : Type} {v : α} {K : α → Prop} : rowX v K = K v := by simp [rowX]
/-! Boxes. -/
def bxX (pos : Nat) (cs : Option (List AV)) (dst : Option Tmp) (v : AV) (σ : St) (K : St → Prop) : Prop := optX cs fun vs => andX (look σ.b pos = none) (K ((σ.put dst v).setB pos vs))
theorem bxX_some {pos} {vs} {dst} {v} : bxX pos (some vs) dst v σ K = andX (look σ.b pos = none) (K ((σ.put dst v).setB pos vs)) := by simp [bxX, optX]
def bxZ (pos : Nat) (cs : Option (List AV)) (dst : Option Tmp) (v : AV) (σ : St) (K : St → Prop) : Prop := bxX pos cs dst v σ K
theorem bxX_go {pos} {cs} {dst} {v} : bxX pos cs dst v σ K = valX cs fun o => bxZ pos o dst v σ K := rfl
@[go_sem ↓] theorem bxZ_some {pos} {vs} {dst} {v} : bxZ pos (some vs) dst v σ K = andX (look σ.b pos = none) (K ((σ.put dst v).setB pos vs)) := by simp [bxZ, bxX, optX]
theorem add_box {dst} {v} {pos} {vs} : σ.add dst ⟨v, [], [(pos, vs)]⟩ = (σ.put dst v).setB pos vs := by cases dst <;> rfl
attribute [go_sem] cellsOf
theorem o_box {pos} {dst} {t} {x} : opX P pos dst (.box t x) σ K = bxX pos (cellsOf (σ.e x)) dst (.box pos 0) σ K := by
  rw [ev_add (fun _ => by simp only [aop])]
  simp only [Ev, bxX]
  split
  · rename_i vs h
    rw [h, optX_some]
    refine propext ⟨?_, ?_⟩
    · rintro ⟨r, rfl, -, h1, h2⟩
      exact ⟨h1.1, by rw [← add_box]; exact h2⟩
    · rintro ⟨h1, h2⟩
      exact ⟨_, rfl, trivial, ⟨h1, trivial⟩, by rw [add_box]; exact h2⟩
  · rename_i h
    rw [h, optX_none]
    simp
theorem o_alloc {pos} {dst} {t} : opX P pos dst (.alloc t) σ K = andX (0 < (tz P t).length) (bxX pos (some ((tz P t).map zAV)) dst (.box pos 0) σ K) := by
  rw [ev_add (fun _ => by simp only [aop])]
  simp only [Ev, bxX, optX_some, andX]
  refine propext ⟨?_, ?_⟩
  · rintro ⟨r, ⟨vs, rfl, h0, rfl⟩, -, h1, h2⟩
    exact ⟨h0, h1.1, by rw [← add_box]; exact h2⟩
  · rintro ⟨h0, h1, h2⟩
    exact ⟨_, ⟨_, rfl, h0, rfl⟩, trivial, ⟨h1, trivial⟩, by rw [add_box]; exact h2⟩
attribute [go_sem] zAV
def pvs (σ : St) : List (Nat × Operand) → List (Nat × AV)
  | [] => []
  | x :: xs => (x.1, σ.e x.2) :: pvs σ xs
theorem pvs_map {xs} : pvs σ xs = xs.map fun x => (x.1, σ.e x.2) := by induction xs with | nil => rfl | cons x xs ih => simp [pvs, ih]
attribute [go_sem] pvs partsCells
def bsX (P : Program) (pos : Nat) (e : TypeId) (n : Nat) (parts : List (Nat × AV)) (dst : Option Tmp) (σ : St) (K : St → Prop) : Prop :=
  andX (parts.length = n ∧ n * tsz P e ≤ 16777216 ∧ 0 < tsz P e ∧ (tz P e).length = tsz P e) (bxX pos (partsCells (tsz P e) 0 parts) dst (.bsl pos n (tsz P e)) σ K)
@[go_sem ↓] theorem o_buildSlice {pos} {dst} {t} {n} {parts} : opX P pos dst (.buildSlice t n parts.toArray) σ K = slX (ti P t) fun e => valX (pvs σ parts) fun ps => bsX P pos e n ps dst σ K := by
  rw [ev_add (fun _ => by simp only [aop])]
  simp only [Ev, slX, valX, pvs_map]
  generalize ti P t = q
  split
  · simp only [BuildS, bsX, bxX, andX]
    refine propext ⟨?_, ?_⟩
    · rintro ⟨r, ⟨h1, h2, h3, h4, h5⟩, -, h6, h7⟩
      split at h5
      · rename_i vs h8
        subst h5
        rw [h8, optX_some]
        exact ⟨⟨h1, h2, h3, h4⟩, h6.1, by rw [← add_box]; exact h7⟩
      · exact h5.elim
    · rintro ⟨⟨h1, h2, h3, h4⟩, vs, h8, h6, h7⟩
      exact ⟨⟨_, [], [(pos, vs)]⟩, ⟨h1, h2, h3, h4, by rw [h8]⟩, trivial, ⟨h6, trivial⟩, by rw [add_box]; exact h7⟩
  · simp
attribute [go_sem] bsX

attribute [go_sem] arrFs
def stX' (P : Program) (t : TI) (K : List (Nat × TypeId) → Prop) : Prop := match t with | .st fs => K fs | .arr n el => andX (0 < tsz P el) (K (arrFs (tsz P el) el n 0)) | _ => False
@[go_sem] theorem stX'_st {fs} {K} : stX' P (.st fs) K = K fs := rfl
theorem stX'_arr {n} {el} {K} : stX' P (.arr n el) K = andX (0 < tsz P el) (valX (arrFs (tsz P el) el n 0) K) := rfl
def bpX (P : Program) (fs : List (Nat × TypeId)) (vs : List AV) (ps : List (Nat × AV)) (K : AV → Prop) : Prop := ∃ ws, buildP P fs vs ps = some ws ∧ K (.agg ws)
@[go_sem] theorem bpX_nil {fs} {vs} {K} : bpX P fs vs [] K = K (.agg vs) := by simp [bpX, buildP]
@[go_sem] theorem bpX_cons {fs} {vs} {f} {v} {ps} {K} : bpX P fs vs ((f, v) :: ps) K = optX fs[f]? fun q => optX (cellsOf v) fun cs => andX (cs.length = tsz P q.2 ∧ q.1 + cs.length ≤ vs.length) (valX (splice vs q.1 cs) fun vs => bpX P fs vs ps K) := by
  unfold bpX optX andX valX
  rw [buildP]
  cases fs[f]? with
  | none => simp
  | some q =>
    cases cellsOf v with
    | none => simp
    | some cs =>
      by_cases hc : cs.length = tsz P q.2 ∧ q.1 + cs.length ≤ vs.length
      · simp only [if_pos hc, Option.some.injEq, exists_eq_left']
        exact propext ⟨fun h => ⟨hc, h⟩, fun h => h.2⟩
      · simp only [if_neg hc, Option.some.injEq, exists_eq_left']
        refine propext ⟨?_, ?_⟩
        · rintro ⟨_, h, _⟩; cases h
        · intro h; exact absurd h.1 hc
theorem o_build {pos} {dst} {t} {parts} : opX P pos dst (.build t parts.toArray) σ K = stX' P (ti P t) fun fs => andX ((fs.all fun q => decide (0 < tsz P q.2)) = true ∧ 0 < (tz P t).length) (bpX P fs ((tz P t).map zAV) (pvs σ parts) fun v => K (σ.put dst v)) := by
  rw [ev_eq (p := fun v => stX' P (ti P t) fun fs => andX ((fs.all fun q => decide (0 < tsz P q.2)) = true ∧ 0 < (tz P t).length) (bpX P fs ((tz P t).map zAV) (pvs σ parts) fun u => v = u)) (fun _ => by simp only [aop]) (fun r => by
    simp only [Ev, stX', andX, bpX, pvs_map]
    generalize ti P t = q
    cases q with
    | st fs =>
      refine propext ⟨?_, ?_⟩
      · rintro ⟨h1, h2, vs, h3, rfl⟩; exact ⟨_, ⟨⟨h1, h2⟩, vs, h3, rfl⟩, rfl⟩
      · rintro ⟨v, ⟨⟨h1, h2⟩, vs, h3, rfl⟩, rfl⟩; exact ⟨h1, h2, vs, h3, rfl⟩
    | arr n el =>
      refine propext ⟨?_, ?_⟩
      · rintro ⟨h0, h1, h2, vs, h3, rfl⟩; exact ⟨_, ⟨h0, ⟨h1, h2⟩, vs, h3, rfl⟩, rfl⟩
      · rintro ⟨v, ⟨h0, ⟨h1, h2⟩, vs, h3, rfl⟩, rfl⟩; exact ⟨h0, h1, h2, vs, h3, rfl⟩
    | _ => simp)]
  unfold stX' andX bpX
  generalize ti P t = q
  cases q with
  | st fs =>
    refine propext ⟨?_, ?_⟩
    · rintro ⟨v, ⟨h1, vs, h3, rfl⟩, hk⟩; exact ⟨h1, vs, h3, hk⟩
    · rintro ⟨h1, vs, h3, hk⟩; exact ⟨_, ⟨h1, vs, h3, rfl⟩, hk⟩
  | arr n el =>
    refine propext ⟨?_, ?_⟩
    · rintro ⟨v, ⟨h0, h1, vs, h3, rfl⟩, hk⟩; exact ⟨h0, h1, vs, h3, hk⟩
    · rintro ⟨h0, h1, vs, h3, hk⟩; exact ⟨_, ⟨h0, h1, vs, h3, rfl⟩, hk⟩
  | _ => simp
attribute [go_sem] zD zDs
@[go_sem] theorem leX_self {n} : leX n n = True := eq_true (Int.le_refl n)
def mkX (P : Program) (pos : Nat) (e : TypeId) (n m : AV) (dst : Option Tmp) (σ : St) (K : St → Prop) : Prop := match n, m with
  | .int .i64 n, .int .i64 m => andX (leX n m) (andX (0 ≤ n ∧ m.toNat * P.bytesOf e ≤ 281474976710656 ∧ m ≤ 4611686018427387904) (andX (0 < tsz P e ∧ (tz P e).length = tsz P e) (optX (zDs (tz P e)) fun z => andX (look σ.t (pos * 16) = none) (rowX (List.replicate n.toNat z) fun rows => K ((σ.put dst (.own (pos * 16))).setT (pos * 16) ⟨rows, some (tsz P e), 0, false⟩)))))
  | _, _ => False
@[go_sem] theorem mkX_int {pos} {e} {n m} {dst} : mkX P pos e (.int .i64 n) (.int .i64 m) dst σ K = andX (leX n m) (andX (0 ≤ n ∧ m.toNat * P.bytesOf e ≤ 281474976710656 ∧ m ≤ 4611686018427387904) (andX (0 < tsz P e ∧ (tz P e).length = tsz P e) (optX (zDs (tz P e)) fun z => andX (look σ.t (pos * 16) = none) (rowX (List.replicate n.toNat z) fun rows => K ((σ.put dst (.own (pos * 16))).setT (pos * 16) ⟨rows, some (tsz P e), 0, false⟩))))) := rfl
theorem add_tok {dst} {v} {n} {tk} : σ.add dst ⟨v, [(n, tk)], []⟩ = (σ.put dst v).setT n tk := by cases dst <;> rfl
theorem o_makeSlice {pos : Nat} {dst : Option Tmp} {t : TypeId} {l c : Operand} : opX P pos dst (.makeSlice t l c) σ K = slX (ti P t) fun e => mkX P pos e (σ.e l) (σ.e c) dst σ K := by
  rw [ev_add (fun _ => by simp only [aop])]
  simp only [Ev, slX, mkX]
  generalize ti P t = q
  cases q with
  | sl e =>
    generalize σ.e l = u
    generalize σ.e c = v
    split
    · rename_i el n m h1
      cases h1
      simp only [MakeS, andX, optX, rowX_eq]
      refine propext ⟨?_, ?_⟩
      · rintro ⟨r, ⟨k1, k2, k3, k4, k5, k6, z, k7, rfl⟩, k8, -, k9⟩
        exact ⟨k1, ⟨k2, k3, k4⟩, ⟨k5, k6⟩, z, k7, k8.1, by rw [← add_tok]; exact k9⟩
      · rintro ⟨k1, ⟨k2, k3, k4⟩, ⟨k5, k6⟩, z, k7, k8, k9⟩
        exact ⟨⟨_, [(pos * 16, ⟨_, some (tsz P e), 0, false⟩)], []⟩, ⟨k1, k2, k3, k4, k5, k6, z, k7, rfl⟩, ⟨k8, trivial⟩, trivial, by rw [add_tok]; exact k9⟩
    · rename_i hno
      have : ∀ p : Prop, (∃ r : Res, False ∧ p) = False := fun p => by simp
      simp only [false_and, exists_false]
      refine propext ⟨False.elim, fun h => ?_⟩
      split at h
      · exact hno e _ _ rfl rfl rfl
      · exact h
  | _ => simp

/-! Calls. -/
def callX (P : Program) (L : Bool) (pos : Nat) (f : FuncId) (args : List AV) (as : Option (List AV)) (dst : Option Tmp) (σ : St) (K : St → Prop) (_ : Wrap L) : Prop :=
  ((∃ bs rv, as = some bs ∧ AC P f bs rv ∧ freshT σ (conv (pos * 16) rv).2 ∧ K (σ.add dst ⟨(conv (pos * 16) rv).1, (conv (pos * 16) rv).2, []⟩)) ∨
    ∃ bs rv qt qb, AG P f bs [] [] rv qt qb ∧ cls (fun _ => none) (fun _ => none) args = some bs ∧ ((qt = [] ∧ pureR rv = true ∧ K (σ.add dst ⟨rv, [], []⟩)) ∨ (∃ q tk, qt = [(q, tk)] ∧ rv = .own q ∧ tk.gen = 0 ∧ look σ.t (pos * 16) = none ∧ K (σ.add dst ⟨.own (pos * 16), [(pos * 16, tk)], []⟩)) ∨ (∃ q k, rv = .box q k) ∧ K (σ.add dst ⟨.rop [] 0, [], []⟩))) ∨
  (L = true ∧ CallF P f args σ fun v σ' => K (σ'.put dst v))
def clX (P : Program) (L : Bool) (pos : Nat) (g : AV) (args : List AV) (dst : Option Tmp) (σ : St) (K : St → Prop) (w : Wrap L) : Prop := match g with
  | .fn f caps => callX P L pos f (args ++ caps) (cls σ.T σ.B (args ++ caps)) dst σ K w
  | _ => False
@[go_sem] theorem clX_fn {L} {wL} {pos} {f} {caps args} {dst} : clX P L pos (.fn f caps) args dst σ K wL = valX (args ++ caps) fun vs => valX (cls σ.T σ.B vs) fun r => callX P L pos f vs r dst σ K wL := rfl
theorem o_call {L} {wL} {pos} {dst} {g} {args} {ts} : opL P L pos dst (.call ⟨.value g, args.toArray, ts⟩) σ K wL = clX P L pos (σ.e g) (evs σ args) dst σ K wL := by
  have h1 : opX P pos dst (.call ⟨.value g, args.toArray, ts⟩) σ K = match σ.e g with
      | .fn f caps => (∃ bs rv, cls σ.T σ.B (evs σ args ++ caps) = some bs ∧ AC P f bs rv ∧ freshT σ (conv (pos * 16) rv).2 ∧ K (σ.add dst ⟨(conv (pos * 16) rv).1, (conv (pos * 16) rv).2, []⟩)) ∨
          ∃ bs rv qt qb, AG P f bs [] [] rv qt qb ∧ cls (fun _ => none) (fun _ => none) (evs σ args ++ caps) = some bs ∧ ((qt = [] ∧ pureR rv = true ∧ K (σ.add dst ⟨rv, [], []⟩)) ∨ (∃ q tk, qt = [(q, tk)] ∧ rv = .own q ∧ tk.gen = 0 ∧ look σ.t (pos * 16) = none ∧ K (σ.add dst ⟨.own (pos * 16), [(pos * 16, tk)], []⟩)) ∨ (∃ q k, rv = .box q k) ∧ K (σ.add dst ⟨.rop [] 0, [], []⟩))
      | _ => False := by
    rw [ev_add (fun _ => by simp only [aop])]
    simp only [Ev, CallA, evs_map]
    generalize σ.e g = v
    split
    · refine propext ⟨?_, ?_⟩
      · rintro ⟨r, h1, h2, -, h4⟩
        rcases h1 with h1 | h1
        · split at h1
          · rename_i as has
            obtain ⟨rv, h5, rfl⟩ := h1
            exact .inl ⟨as, rv, has, h5, h2, h4⟩
          · exact h1.elim
        · obtain ⟨as, rv, qt, qb, h5, h6, h7⟩ := h1
          rcases h7 with ⟨h7, h8, rfl⟩ | ⟨q, tk, h7, h8, h9, rfl⟩ | ⟨h7, rfl⟩
          · exact .inr ⟨as, rv, qt, qb, h5, h6, .inl ⟨h7, h8, h4⟩⟩
          · exact .inr ⟨as, rv, qt, qb, h5, h6, .inr (.inl ⟨q, tk, h7, h8, h9, h2.1, h4⟩)⟩
          · exact .inr ⟨as, rv, qt, qb, h5, h6, .inr (.inr ⟨h7, h4⟩)⟩
      · rintro (⟨bs, rv, h1, h5, h2, h4⟩ | ⟨bs, rv, qt, qb, h5, h6, ⟨h7, h8, h4⟩ | ⟨q, tk, h7, h8, h9, h2, h4⟩ | ⟨h7, h4⟩⟩)
        · exact ⟨⟨(conv (pos * 16) rv).1, (conv (pos * 16) rv).2, []⟩, .inl (by rw [h1]; exact ⟨rv, h5, rfl⟩), h2, trivial, h4⟩
        · exact ⟨⟨rv, [], []⟩, .inr ⟨bs, rv, qt, qb, h5, h6, .inl ⟨h7, h8, rfl⟩⟩, trivial, trivial, h4⟩
        · exact ⟨⟨.own (pos * 16), [(pos * 16, tk)], []⟩, .inr ⟨bs, rv, qt, qb, h5, h6, .inr (.inl ⟨q, tk, h7, h8, h9, rfl⟩)⟩, ⟨h2, trivial⟩, trivial, h4⟩
        · exact ⟨⟨.rop [] 0, [], []⟩, .inr ⟨bs, rv, qt, qb, h5, h6, .inr (.inr ⟨h7, rfl⟩)⟩, trivial, trivial, h4⟩
    · simp
  have h2 : opL P L pos dst (.call ⟨.value g, args.toArray, ts⟩) σ K wL = (opX P pos dst (.call ⟨.value g, args.toArray, ts⟩) σ K ∨ (L = true ∧ CallO P ⟨dst, .call ⟨.value g, args.toArray, ts⟩, 0, "", #[], none⟩ σ K)) := by
    have hA : isApp ⟨dst, .call ⟨.value g, args.toArray, ts⟩, 0, "", #[], none⟩ = false := rfl
    have hS : SliK P pos ⟨dst, .call ⟨.value g, args.toArray, ts⟩, 0, "", #[], none⟩ σ K = False := rfl
    unfold opL aopL opX
    rw [hA, hS]; simp
  rw [h2, h1]
  unfold clX callX CallO
  simp only [evs_map]
  generalize σ.e g = v
  cases v <;> simp
attribute [go_sem] cl cls toD toDs toA toAs pureA pureAs Option.map_some Option.map_none
/-- A call by its contract: the arguments are only read. -/
theorem call_ac {pos} {f} {args bs} {dst} {rv} (h : AC P f bs rv) (hf : freshT σ (conv (pos * 16) rv).2) (hk : K (σ.add dst ⟨(conv (pos * 16) rv).1, (conv (pos * 16) rv).2, []⟩)) {L} {wL} : callX P L pos f args (some bs) dst σ K wL :=
  .inl (.inl ⟨bs, rv, rfl, h, hf, hk⟩)
@[go_sem] theorem freshT_nil : freshT σ [] = True := rfl
@[go_sem] theorem freshT_cons {n} {tk} {l} : freshT σ ((n, tk) :: l) = (look σ.t n = none ∧ freshT σ l) := rfl
attribute [go_sem] conv convs addT addB
@[go_sem] theorem add_some {s t b} {d} {r} : St.add ⟨s, t, b⟩ (some d) r = ⟨(d, r.v) :: s, addT t r.t, addB b r.b⟩ := rfl
@[go_sem] theorem add_none {s t b} {r} : St.add ⟨s, t, b⟩ none r = ⟨s, addT t r.t, addB b r.b⟩ := rfl

/-! Writes. -/
section
variable {z : Bool}
@[go_sem] theorem emb_nil {K} : EmbK z [] σ K = K [] σ := by rw [EmbK]
@[go_sem] theorem emb_int {k} {n} {vs} {K} : EmbK z (.int k n :: vs) σ K = EmbK z vs σ fun ds σ' => K (.int k n :: ds) σ' := by rw [EmbK]
@[go_sem] theorem emb_bool {b} {vs} {K} : EmbK z (.bool b :: vs) σ K = EmbK z vs σ fun ds σ' => K (.bool b :: ds) σ' := by rw [EmbK]
@[go_sem] theorem emb_str {s} {vs} {K} : EmbK z (.str s :: vs) σ K = EmbK z vs σ fun ds σ' => K (.str s :: ds) σ' := by rw [EmbK]
@[go_sem] theorem emb_nils {vs} {K} : EmbK z (.nils :: vs) σ K = EmbK z vs σ fun ds σ' => K (nilD z :: ds) σ' := by rw [EmbK]
@[go_sem] theorem nilD_f : nilD false = .sl [] := rfl
@[go_sem] theorem nilD_t : nilD true = .fz [] := rfl
@[go_sem] theorem emb_nilp {vs} {K} : EmbK z (.nilp :: vs) σ K = EmbK z vs σ fun ds σ' => K (.nilp :: ds) σ' := by rw [EmbK]
@[go_sem] theorem emb_ro {rows} {vs} {K} : EmbK z (.ro rows :: vs) σ K = andX (z = true) (EmbK z vs σ fun ds σ' => K (.fz rows :: ds) σ') := by rw [EmbK]; rfl
@[go_sem] theorem emb_rop {ws} {off} {vs} {K} : EmbK z (.rop ws off :: vs) σ K = andX (z = true) (optX (unD (.rop ws off)) fun d => EmbK z vs σ fun ds σ' => K (d :: ds) σ') := by rw [EmbK]; rfl
@[go_sem] theorem emb_bsl {b n sz} {vs} {K} : EmbK z (.bsl b n sz :: vs) σ K = if n = 0 then EmbK z vs σ fun ds σ' => K (nilD z :: ds) σ' else LitK z b n sz σ fun rows σ1 => EmbK z vs σ1 fun ds σ' => K (.sl rows :: ds) σ' := by rw [EmbK]
@[go_sem ↓] theorem litK_eq {b n sz} {K} : LitK z b n sz σ K = andX (1000 ≤ b) (andX (0 < sz) (optX (σ.B b) fun vs => optX (litDs z vs) fun ds => andX (ds.length = n * sz) (valX (chunks sz n ds) fun rows => K rows (σ.killB b)))) := rfl
@[go_sem] theorem killB_mk {s t b} {x} : St.killB ⟨s, t, b⟩ x = ⟨s, t, (x, none) :: b⟩ := rfl
attribute [go_sem] flatDs litD litDs unD unDs
@[go_sem] theorem emb_own {t} {vs} {K} : EmbK z (.own t :: vs) σ K = optX (σ.T t) fun tk => andX (okZ z tk = true) (EmbK z vs (σ.killT t) fun ds σ' => K (.sl tk.rows :: ds) σ') := by rw [EmbK]; rfl
end
def stX (P : Program) (t : TypeId) (a : AV) (cs : Option (List AV)) (σ : St) (K : St → Prop) : Prop :=
  optX cs fun cs => andX (cs.length = tsz P t ∧ 0 < tsz P t ∧ cs.all AV.one = true) (match a with
    | .box b off => ∃ vs, σ.B b = some vs ∧ isMp vs = false ∧ off + cs.length ≤ vs.length ∧ K (σ.setB b (splice vs off cs))
    | .elt t' sz i off => ∃ tk0, σ.T t' = some tk0 ∧ EmbK tk0.z cs σ fun ds σ' => ∃ tk row, (σ'.T t' = some tk ∧ tk.z = tk0.z) ∧ tk.rows[i]? = some row ∧ row.length = sz ∧ off + ds.length ≤ sz ∧ K (σ'.setT t' ⟨tk.rows.set i (splice row off ds), tk.sz, if flatAt row off ds = true then tk.gen else tk.gen + 1, tk.z⟩)
    | .els t' g p sz i off => EmbK false cs σ fun ds σ' => ∃ rows, subR σ'.T t' g p = some rows ∧ ∃ row, rows[i]? = some row ∧ (p ≠ [] ∧ row.length = sz ∧ off + ds.length ≤ sz ∧ flatAt row off ds = true) ∧ ∃ tk, σ'.T t' = some tk ∧ K (σ'.setT t' ⟨putR p tk.rows (.sl (rows.set i (splice row off ds))), tk.sz, tk.gen, tk.z⟩)
    | _ => False)
theorem o_store {pos} {dst} {t} {a x} : opX P pos dst (.store t a x) σ K = stX P t (σ.e a) (cellsOf (σ.e x)) σ fun σ' => K (σ'.put dst .any) := by
  unfold opX
  simp only [aop, StoreK, stX]
  split
  · rename_i cs h
    rw [h, optX_some]
    unfold andX
    refine propext ⟨?_, ?_⟩
    · rintro ⟨h1, h2, h3, h4⟩; exact ⟨⟨h1, h2, h3⟩, h4⟩
    · rintro ⟨⟨h1, h2, h3⟩, h4⟩; exact ⟨h1, h2, h3, h4⟩
  · rename_i h
    rw [h, optX_none]
@[go_sem] theorem stX_box {t} {b off} {cs} : stX P t (.box b off) (some cs) σ K = andX (cs.length = tsz P t ∧ 0 < tsz P t ∧ cs.all AV.one = true) (optX (σ.B b) fun vs => andX (isMp vs = false) (andX (off + cs.length ≤ vs.length) (valX (splice vs off cs) fun vs' => K (σ.setB b vs')))) := by
  rw [stX, optX_some]; rfl
@[go_sem] theorem stX_els {t : TypeId} {t' g sz i off : Nat} {p : Pth} {cs : List AV} : stX P t (.els t' g p sz i off) (some cs) σ K = andX (cs.length = tsz P t ∧ 0 < tsz P t ∧ cs.all AV.one = true) (EmbK false cs σ fun ds σ' => optX (subR σ'.T t' g p) fun rows => optX rows[i]? fun row => andX (p ≠ [] ∧ row.length = sz ∧ off + ds.length ≤ sz ∧ flatAt row off ds = true) (optX (σ'.T t') fun tk => rowX (putR p tk.rows (.sl (rows.set i (splice row off ds)))) fun rows' => K (σ'.setT t' ⟨rows', tk.sz, tk.gen, tk.z⟩))) := by
  rw [stX, optX_some]
  simp only [andX, optX, rowX_eq]
@[go_sem] theorem stX_elt {t : TypeId} {t' sz i off : Nat} {cs : List AV} : stX P t (.elt t' sz i off) (some cs) σ K = andX (cs.length = tsz P t ∧ 0 < tsz P t ∧ cs.all AV.one = true) (optX (σ.T t') fun tk0 => EmbK tk0.z cs σ fun ds σ' => optX (σ'.T t') fun tk => andX (tk.z = tk0.z) (optX tk.rows[i]? fun row => andX (row.length = sz ∧ off + ds.length ≤ sz) (rowX (tk.rows.set i (splice row off ds)) fun rows => K (σ'.setT t' ⟨rows, tk.sz, if flatAt row off ds = true then tk.gen else tk.gen + 1, tk.z⟩)))) := by
  rw [stX, optX_some]
  simp only [andX, optX, rowX_eq]
  congr 1
  congr 1
  funext tk0
  congr 1
  congr 1
  funext ds σ'
  refine propext ⟨?_, ?_⟩
  · rintro ⟨tk, row, ⟨h1, h0⟩, h2, h3, h4, h5⟩; exact ⟨tk, h1, h0, row, h2, ⟨h3, h4⟩, h5⟩
  · rintro ⟨tk, h1, h0, row, h2, ⟨h3, h4⟩, h5⟩; exact ⟨tk, row, ⟨h1, h0⟩, h2, h3, h4, h5⟩

/-! Append. -/
section
variable {z : Bool}
@[go_sem] theorem appX_nils {e} {sz} {K} : AppX z e sz .nils σ K = K [] σ := rfl
@[go_sem] theorem appX_bsl {e} {sz b n sz'} {K} : AppX z e sz (.bsl b n sz') σ K = if n = 0 then K [] σ else andX (sz' = sz) (LitK z b n sz σ K) := rfl
@[go_sem] theorem appX_own {e} {sz t} {K} : AppX z e sz (.own t) σ K = optX (σ.T t) fun tk => andX (tk.sz = some sz ∧ okZ z tk = true) (K tk.rows (σ.killT t)) := rfl
@[go_sem] theorem appY_nils {sz} {K} : AppY z sz .nils σ K = K [] σ := rfl
@[go_sem] theorem appY_bsl {sz b n sz'} {K} : AppY z sz (.bsl b n sz') σ K = optX (σ.B b) fun vs => andX (sz' = sz ∧ vs.length = n * sz ∧ vs.all AV.one = true) (EmbK z vs σ fun ds σ' => valX (chunks sz n ds) fun rows => K rows σ') := by
  simp only [AppY, optX, andX, valX]
  refine propext ⟨?_, ?_⟩
  · rintro ⟨vs, h1, h2, h3, h4, h5⟩; exact ⟨vs, h1, ⟨h2, h3, h4⟩, h5⟩
  · rintro ⟨vs, h1, ⟨h2, h3, h4⟩, h5⟩; exact ⟨vs, h1, h2, h3, h4, h5⟩
@[go_sem] theorem appY_ro {sz} {rows} {K} : AppY false sz (.ro rows) σ K = andX (∀ row ∈ rows, row.length = sz ∧ ∀ d ∈ row, d.flat = true) (K rows σ) := rfl
@[go_sem] theorem appY_roz {sz : Nat} {rows : List (List D)} {K : List (List D) → St → Prop} : AppY true sz (.ro rows) σ K = andX (∀ row ∈ rows, row.length = sz ∧ ∀ d ∈ row, d ≠ .gone) (rowX (fzR rows) fun r => K r σ) := by
  simp only [AppY, andX, rowX_eq]
@[go_sem] theorem appY_own {sz t} {K} : AppY z sz (.own t) σ K = optX (σ.T t) fun tk => andX (okZ z tk = true) (andX (∀ row ∈ tk.rows, row.length = sz) (K tk.rows (σ.killT t))) := by
  simp only [AppY, optX, andX]
  refine propext ⟨?_, ?_⟩
  · rintro ⟨tk, h1, ⟨h2, h3⟩, h4⟩; exact ⟨tk, h1, h3, h2, h4⟩
  · rintro ⟨tk, h1, h3, h2, h4⟩; exact ⟨tk, h1, ⟨h2, h3⟩, h4⟩
end
attribute [go_sem] chunks
/-- Whether the new slice may hold what is not written any more. -/
def zX (K : Bool → Prop) : Prop := ∃ z, K z
def zY (K : Bool → Prop) (_ : Wrap K) : Prop := ∃ z, K z
@[go_sem ↓] theorem zX_go {K} : zX K = zY K ⟨⟩ := rfl
theorem zed_i {K} {w} (z : Bool) (h : K z) : zY K w := ⟨z, h⟩
def apX (P : Program) (pos : Nat) (e : TypeId) (x y : AV) (dst : Option Tmp) (σ : St) (K : St → Prop) : Prop :=
  andX (0 < tsz P e ∧ (tz P e).length = tsz P e) (zX fun z => AppX z e (tsz P e) x σ fun rows σ1 => AppY z (tsz P e) y σ1 fun rows2 σ2 =>
      andX ((rows.length + rows2.length) * P.bytesOf e ≤ 140737488355328 ∧ rows.length + rows2.length ≤ maxLen) (andX (look σ2.t (pos * 16) = none) (K ((σ2.setT (pos * 16) ⟨rows ++ rows2, some (tsz P e), 0, z⟩).put dst (.own (pos * 16))))))
theorem o_append {pos} {dst} {x y} {t} : opX P pos dst (.call ⟨.builtin .append, List.toArray [x, y], List.toArray [t, t]⟩) σ K = slX (ti P t) fun e => apX P pos e (σ.e x) (σ.e y) dst σ K := by
  unfold opX
  simp only [aop, AppK, slX, true_and]
  generalize ti P t = q
  split
  · rename_i e
    show (0 < tsz P e ∧ (tz P e).length = tsz P e ∧ _) = ((0 < tsz P e ∧ (tz P e).length = tsz P e) ∧ _)
    rw [and_assoc]
    congr 1
    congr 1
    show (∃ z, _) = (∃ z, _)
    congr 1
    funext z
    congr 1
    funext rows σ1
    congr 1
    funext rows2 σ2
    show (_ ∧ _ ∧ _ ∧ _) = ((_ ∧ _) ∧ _ ∧ _)
    rw [and_assoc]
  · rename_i h
    cases q with
    | sl e => exact (h e rfl).elim
    | _ => rfl
end
@[go_sem] theorem avPut_nil {v x} : avPut v [] x = x := by cases v <;> rfl
attribute [go_sem ↓] bxX_go
attribute [go_sem ↓] len_str len_ro len_nils len_bsl len_own len_sub len_mpr stX'_st bpX_nil bpX_cons mkX_int clX_fn emb_nil emb_int emb_bool emb_str emb_nils emb_nilp emb_ro emb_rop emb_bsl emb_own stX_box stX_elt stX_els appX_nils appX_bsl appX_own appY_nils appY_bsl appY_ro appY_roz appY_own
end Go.Proofs.Ytgigfdghecdlgaa.Ab

/-
  The abstract walk as rules, fourth part: results, loops, ranges of numbers.
-/
namespace Go.Proofs.Ytgigfdghecdlgaa.Ab
set_option linter.unusedVariables false
open Go.RowKit
section
variable {P : Program} {σ : St} {K : St → Prop} {Q : AE → St → Prop}

@[go_sem] theorem wrap64 {n} (h1 : -9223372036854775808 ≤ n) (h2 : n ≤ 9223372036854775807) : IntKind.i64.wrap n = n := Go.IntWalk.i64_in n ⟨h1, h2⟩

/-! Results. -/
@[go_sem ↓] theorem resA_nil {K} : ResA P σ [] K = K [] := rfl
@[go_sem ↓] theorem resA_tmp {t} {l} {K} : ResA P σ (.tmp t :: l) K = valX (σ.g t) fun v => ResA P σ l fun vs => K (v :: vs) := rfl
@[go_sem ↓] theorem resA_cell {a} {t} {l} {K} : ResA P σ (.cell a t :: l) K = loadX P t (σ.g a) σ fun v => ResA P σ l fun vs => K (v :: vs) := rfl
@[go_sem] theorem ret_int {k} {n m} : RetR (.int k n) (.int k m) σ K = andX (n = m) (K σ) := by simp [RetR, andX]
@[go_sem] theorem ret_bool {b c} : RetR (.bool b) (.bool c) σ K = andX (b = c) (K σ) := by simp [RetR, andX]
@[go_sem] theorem ret_str {s s'} : RetR (.str s) (.str s') σ K = andX (s = s') (K σ) := by simp [RetR, andX]
@[go_sem] theorem ret_nilp : RetR .nilp .nilp σ K = K σ := by simp [RetR]
@[go_sem] theorem ret_nils {ap} {rows} : RetR .nils (.ow ap rows) σ K = andX (rows = []) (K σ) := by simp [RetR, andX]
@[go_sem] theorem ret_bsl {b n sz} {ap} {rows} : RetR (.bsl b n sz) (.ow ap rows) σ K = andX (n = 0) (andX (rows = []) (K σ)) := by simp only [RetR, andX]
@[go_sem] theorem ret_own {t} {ap} {rows} : RetR (.own t) (.ow ap rows) σ K = optX (σ.T t) fun tk => andX (tk.rows = rows) (andX (ap = none ∨ tk.sz = ap) (andX (tk.z = false) (K (σ.killT t)))) := by simp only [RetR, andX, optX]
@[go_sem] theorem ret_ror {rows rows'} : RetR (.ro rows) (.ro rows') σ K = andX (rows = rows') (K σ) := by simp only [RetR, andX]
@[go_sem] theorem ret_roo {rows rows'} : RetR (.ro rows) (.ow none rows') σ K = andX (rows = []) (andX (rows' = []) (K σ)) := by simp [RetR, andX]
@[go_sem] theorem ret_agg {vs} {rs} : RetR (.agg vs) (.agg rs) σ K = RetRs vs rs σ K := by simp only [RetR]
@[go_sem] theorem ret_tup {vs} {rs} : RetR (.tup vs) (.tup rs) σ K = RetRs vs rs σ K := by simp only [RetR]
@[go_sem] theorem rets_nil : RetRs [] [] σ K = K σ := by simp only [RetRs]
@[go_sem] theorem rets_cons {v} {vs} {r} {rs} : RetRs (v :: vs) (r :: rs) σ K = RetR v r σ fun σ' => RetRs vs rs σ' K := by simp only [RetRs]
def finX (r : RV) (σ : St) (vs : List AV) : Prop := match vs with
  | [v] => RetR v r σ fun _ => True
  | vs => RetR (.tup vs) r σ fun _ => True
@[go_sem ↓] theorem fin_nil {r} : finX r σ [] = RetR (.tup []) r σ fun _ => True := rfl
@[go_sem ↓] theorem fin_one {r} {v} : finX r σ [v] = RetR v r σ fun _ => True := rfl
@[go_sem ↓] theorem fin_two {r} {v u} {vs} : finX r σ (v :: u :: vs) = RetR (.tup (v :: u :: vs)) r σ fun _ => True := rfl
def endX (P : Program) (l : List ResultVar) (r : RV) (q : AE) (σ : St) : Prop := match q with | .exit _ => False | _ => ResA P σ l (finX r σ)
@[go_sem ↓] theorem end_normal {l} {r} : endX P l r .normal σ = ResA P σ l (finX r σ) := rfl
@[go_sem ↓] theorem end_ret {l} {r} : endX P l r .ret σ = ResA P σ l (finX r σ) := rfl

/-- A function, by the walk of its body. -/
theorem ac_fn (hm : P.follows .mixedOrders = true) {f} {fn} {c} {l} {args} {r} (hf : P.funcs[f]? = some fn) (hb : fn.body = some c) (hr : fn.results = l.toArray) (hnm : (fn.name == "runtime.NumGoroutine") = false)
    (hn : decide (args.length ≤ fn.ntmps) = true) (hok : codeOk fn.ntmps c = true) (h : awp P c (endX P l r) (st0 args)) : AC P f args r := by
  refine ac_of_body hm hf hb hnm (of_decide_eq_true hn) hok ?_
  have e : endQ P fn.results.toList r = endX P l r := by
    rw [hr]
    funext q σ
    cases q <;> rfl
  rw [e]
  exact h
attribute [go_sem] st0 args0

/-! Loops. -/
def againX {X : Type} (R : X → Prop) (inv : X → St) (μ : X → Nat) (x : X) (σ : St) : Prop := ∃ x', Weak σ (inv x') ∧ R x' ∧ μ x' < μ x
def againY {X : Type} (R : X → Prop) (inv : X → St) (μ : X → Nat) (x : X) (σ : St) (_ : Wrap R) (_ : Wrap inv) (_ : Wrap μ) (_ : Wrap x) : Prop := againX R inv μ x σ
@[go_sem ↓] theorem againX_go {X : Type} {R : X → Prop} {inv : X → St} {μ : X → Nat} {x : X} {σ : St} : againX R inv μ x σ = againY R inv μ x σ ⟨⟩ ⟨⟩ ⟨⟩ ⟨⟩ := rfl
theorem x_loop {body} {w1} {w2} {X : Type} (R : X → Prop) (inv : X → St) (μ : X → Nat) (x0 : X) (hw : Weak σ (inv x0)) (hr : R x0) (h : ∀ x, R x → awp P body (AE.then (againX R inv μ x) Q) (inv x)) : loopY P body Q σ w1 w2 := by
  have key : ∀ n x, μ x ≤ n → R x → awp P (.loop body) Q (inv x) := by
    intro n
    induction n with
    | zero =>
      intro x hn hR
      refine loop_unfold (awp_mono (fun q σ hq => ?_) (h x hR))
      cases q with
      | normal => obtain ⟨x', h1, h2, h3⟩ := hq; omega
      | exit id => exact hq
      | ret => exact hq
    | succ n ih =>
      intro x hn hR
      refine loop_unfold (awp_mono (fun q σ hq => ?_) (h x hR))
      cases q with
      | normal => obtain ⟨x', h1, h2, h3⟩ := hq; exact ⟨_, .one h1, ih x' (by omega) h2⟩
      | exit id => exact hq
      | ret => exact hq
  have k0 := key (μ x0) x0 (Nat.le_refl _) hr
  show awp P (.loop body) Q σ
  rw [awp] at k0 ⊢
  intro L hL
  obtain ⟨σ0, h1, h2⟩ := k0 L hL
  exact ⟨σ0, (Wk.one hw).trans h1, h2⟩
theorem wk_of {σ0} (rt rb : List (Nat × Nat)) (h : WeakBy rt rb σ σ0) : Wk σ σ0 := .one ⟨σ, .done σ, rt, rb, h⟩
theorem weak_of {σ0} (rt rb : List (Nat × Nat)) (h : WeakBy rt rb σ σ0) : Weak σ σ0 := ⟨σ, .done σ, rt, rb, h⟩
theorem againX_of {X : Type} {R} {inv} {μ} {x} {w1} {w2} {w3} {w4} (x' : X) (rt rb : List (Nat × Nat)) (h : WeakBy rt rb σ (inv x')) (hr : R x') (hμ : μ x' < μ x) : againY R inv μ x σ w1 w2 w3 w4 := ⟨x', weak_of rt rb h, hr, hμ⟩
attribute [go_sem] WeakBy WeakS WeakT WeakB ren rens known knowns List.nodup_nil List.all_nil List.all_cons AV.int.injEq AV.bool.injEq AV.str.injEq AV.ro.injEq AV.rop.injEq AV.agg.injEq AV.fn.injEq AV.own.injEq AV.box.injEq AV.bsl.injEq AV.elt.injEq List.cons.injEq Tok.mk.injEq Option.isSome_some exists_eq_left' exists_eq_left

/-! Elements. -/
theorem idx_at {rows : List (List D)} {n : Nat} {sz : Nat} {K : List D → Prop} {row : List D} (h : rows[n]? = some row) (hl : row.length = sz) (hk : K row) : idxX rows (n : Int) sz K := ⟨row, ⟨by omega, by simpa using h, hl⟩, hk⟩
end
attribute [go_sem ↓] ret_int ret_bool ret_str ret_nilp ret_nils ret_bsl ret_own ret_ror ret_agg ret_tup rets_nil rets_cons
end Go.Proofs.Ytgigfdghecdlgaa.Ab

/-
  The abstract walk as rules, last part: the rules with what they must not go into hidden.
-/
namespace Go.Proofs.Ytgigfdghecdlgaa.Ab
set_option linter.unusedVariables false
open Go.RowKit
section
variable {P : Program} {σ : St} {K : St → Prop} {pos : Nat} {dst : Option Tmp} {t t' s d : TypeId} {x y a b c g l : Operand} {f i : Nat} {op : BinOp}
def slY (t : TI) (K : TypeId → Prop) (_ : Wrap K) : Prop := slX t K
@[go_sem ↓] theorem slX_go {t} {K} : slX t K = slY t K ⟨⟩ := rfl
@[go_sem] theorem slY_sl {e} {K} {w} : slY (.sl e) K w = K e := rfl
def kindY (t : TI) (K : IntKind → Prop) (_ : Wrap K) : Prop := kindX t K
@[go_sem ↓] theorem kindX_go {t} {K} : kindX t K = kindY t K ⟨⟩ := rfl
@[go_sem] theorem kindY_int {k} {K} {w} : kindY (.int k) K w = K k := rfl
def stY (P : Program) (t : TI) (K : List (Nat × TypeId) → Prop) (_ : Wrap K) : Prop := stX' P t K
@[go_sem ↓] theorem stX_go {t} {K} : stX' P t K = stY P t K ⟨⟩ := rfl
@[go_sem] theorem stY_st {fs} {K} {w} : stY P (.st fs) K w = K fs := rfl
@[go_sem] theorem stY_arr {n} {el} {K} {w} : stY P (.arr n el) K w = andX (0 < tsz P el) (valX (arrFs (tsz P el) el n 0) K) := rfl
def idxY (rows : List (List D)) (n : Int) (sz : Nat) (K : List D → Prop) (_ : Wrap K) : Prop := idxX rows n sz K
@[go_sem ↓] theorem idxX_go {rows} {n} {sz} {K} : idxX rows n sz K = idxY rows n sz K ⟨⟩ := rfl
theorem idx_i {rows : List (List D)} {n sz : Nat} {K : List D → Prop} {w : Wrap K} {row : List D} (h : rows[n]? = some row) (hl : row.length = sz) (hk : K row) : idxY rows (n : Int) sz K w := idx_at h hl hk
def rowY {α : Type} (v : α) (K : α → Prop) (_ : Wrap K) : Prop := rowX v K
@[go_sem ↓] theorem rowX_go {α : Type} {v : α} {K : α → Prop} : rowX v K = rowY v K ⟨⟩ := rfl
theorem row_i {α : Type} {v} {K} {w} (y : α) (h : v = y) (hk : K y) : rowY v K w := ⟨y, h, hk⟩
/-! What comes of a call, told from the front: linear in the number of its cells. -/
def cvsW (n : Nat) (rs : List RV) (K : List AV → List (Nat × Tok) → Prop) (_ : Wrap K) : Prop := K (convs n rs).1 (convs n rs).2
def cv1 (n : Nat) (r : RV) (K : AV → List (Nat × Tok) → Prop) : Prop := K (conv n r).1 (conv n r).2
section
variable {n : Nat} {rs us : List RV} {L : List AV → List (Nat × Tok) → Prop} {L1 : AV → List (Nat × Tok) → Prop} {w : Wrap L}
@[go_sem] theorem cvs_nil : cvsW n [] L w = L [] [] := rfl
@[go_sem] theorem cvs_int {k} {x} : cvsW n (.int k x :: rs) L w = cvsW n rs (fun vs ts => L (.int k x :: vs) ts) ⟨⟩ := by simp only [cvsW, convs, conv, List.length_nil, Nat.add_zero, List.nil_append]
@[go_sem] theorem cvs_bool {b} : cvsW n (.bool b :: rs) L w = cvsW n rs (fun vs ts => L (.bool b :: vs) ts) ⟨⟩ := by simp only [cvsW, convs, conv, List.length_nil, Nat.add_zero, List.nil_append]
@[go_sem] theorem cvs_str {x} : cvsW n (.str x :: rs) L w = cvsW n rs (fun vs ts => L (.str x :: vs) ts) ⟨⟩ := by simp only [cvsW, convs, conv, List.length_nil, Nat.add_zero, List.nil_append]
@[go_sem] theorem cvs_ro {x} : cvsW n (.ro x :: rs) L w = cvsW n rs (fun vs ts => L (.any :: vs) ts) ⟨⟩ := by simp only [cvsW, convs, conv, List.length_nil, Nat.add_zero, List.nil_append]
@[go_sem] theorem cvs_nilp : cvsW n (.nilp :: rs) L w = cvsW n rs (fun vs ts => L (.nilp :: vs) ts) ⟨⟩ := by simp only [cvsW, convs, conv, List.length_nil, Nat.add_zero, List.nil_append]
@[go_sem] theorem cvs_ow {ap} {x} : cvsW n (.ow ap x :: rs) L w = cvsW (n + 1) rs (fun vs ts => L (.own n :: vs) ((n, ⟨x, ap, 0, false⟩) :: ts)) ⟨⟩ := by simp only [cvsW, convs, conv, List.length_nil, List.length_cons, Nat.zero_add, List.cons_append, List.nil_append]
@[go_sem] theorem cvs_agg : cvsW n (.agg us :: rs) L w = cvsW n us (fun ws ts => cvsW (n + ts.length) rs (fun vs ts' => L (.agg ws :: vs) (ts ++ ts')) ⟨⟩) ⟨⟩ := by simp only [cvsW, convs, conv]
@[go_sem] theorem cvs_tup : cvsW n (.tup us :: rs) L w = cvsW n us (fun ws ts => cvsW (n + ts.length) rs (fun vs ts' => L (.tup ws :: vs) (ts ++ ts')) ⟨⟩) ⟨⟩ := by simp only [cvsW, convs, conv]
@[go_sem ↓] theorem cv1_int {k} {x} : cv1 n (.int k x) L1 = L1 (.int k x) [] := rfl
@[go_sem ↓] theorem cv1_bool {b} : cv1 n (.bool b) L1 = L1 (.bool b) [] := rfl
@[go_sem ↓] theorem cv1_str {x} : cv1 n (.str x) L1 = L1 (.str x) [] := rfl
@[go_sem ↓] theorem cv1_ro {x} : cv1 n (.ro x) L1 = L1 .any [] := rfl
@[go_sem ↓] theorem cv1_nilp : cv1 n .nilp L1 = L1 .nilp [] := rfl
@[go_sem ↓] theorem cv1_ow {ap} {x} : cv1 n (.ow ap x) L1 = L1 (.own n) [(n, ⟨x, ap, 0, false⟩)] := rfl
@[go_sem ↓] theorem cv1_agg : cv1 n (.agg us) L1 = cvsW n us (fun ws ts => L1 (.agg ws) ts) ⟨⟩ := by simp only [cvsW, cv1, conv]
@[go_sem ↓] theorem cv1_tup : cv1 n (.tup us) L1 = cvsW n us (fun ws ts => L1 (.tup ws) ts) ⟨⟩ := by simp only [cvsW, cv1, conv]
end
attribute [go_sem ↓] cvs_nil cvs_int cvs_bool cvs_str cvs_ro cvs_nilp cvs_ow cvs_agg cvs_tup
def callY (P : Program) (L : Bool) (pos : Nat) (f : FuncId) (args : List AV) (as : Option (List AV)) (dst : Option Tmp) (σ : St) (K : St → Prop) (_ : Wrap K) (w : Wrap L) : Prop := callX P L pos f args as dst σ K w
@[go_sem ↓] theorem callX_go {L} {wL} {f} {args} {as} : callX P L pos f args as dst σ K wL = callY P L pos f args as dst σ K ⟨⟩ wL := rfl
theorem call_i {f} {args bs} {w} {rv} (h : AC P f bs rv) (hk : valX (pos * 16) fun m => cv1 m rv fun v ts => andX (freshT σ ts) (K (σ.add dst ⟨v, ts, []⟩))) {L} {wL} : callY P L pos f args (some bs) dst σ K w wL := call_ac h hk.1 hk.2
theorem call_e {f} {args bs} {w} {rv} {o} (e : o = some bs) (h : AC P f bs rv) (hk : valX (pos * 16) fun m => cv1 m rv fun v ts => andX (freshT σ ts) (K (σ.add dst ⟨v, ts, []⟩))) {L} {wL} : callY P L pos f args o dst σ K w wL := by
  subst e; exact call_ac h hk.1 hk.2
/-- A call that is handed nothing of the caller's own, and hands back what is only read. -/
theorem call_z {f} {args bs} {w} {rv} {o} (h : AG P f bs [] [] rv [] []) (e : cls (fun _ => none) (fun _ => none) args = some bs) (hp : pureR rv = true) (hk : K (σ.add dst ⟨rv, [], []⟩)) {L} {wL} : callY P L pos f args o dst σ K w wL := .inl (.inr ⟨bs, rv, [], [], h, e, .inl ⟨rfl, hp, hk⟩⟩)
/-- .., or one slice. -/
theorem call_zt {f} {args bs} {w} {q} {rows} {sz} {z} {o} (h : AG P f bs [] [] (.own q) [(q, ⟨rows, sz, 0, z⟩)] []) (e : cls (fun _ => none) (fun _ => none) args = some bs) (hk : andX (look σ.t (pos * 16) = none) (K (σ.add dst ⟨.own (pos * 16), [(pos * 16, ⟨rows, sz, 0, z⟩)], []⟩))) {L} {wL} : callY P L pos f args o dst σ K w wL := .inl (.inr ⟨bs, .own q, _, [], h, e, .inr (.inl ⟨q, _, rfl, rfl, rfl, hk.1, hk.2⟩)⟩)
/-- .., or a pointer that nothing is told of. -/
theorem call_j {f} {args bs} {w} {q k} {qt} {qb} {o} (h : AG P f bs [] [] (.box q k) qt qb) (e : cls (fun _ => none) (fun _ => none) args = some bs) (hk : K (σ.add dst ⟨.rop [] 0, [], []⟩)) {L} {wL} : callY P L pos f args o dst σ K w wL := .inl (.inr ⟨bs, .box q k, qt, qb, h, e, .inr (.inr ⟨⟨q, k, rfl⟩, hk⟩)⟩)
attribute [go_sem] pureR
/-- What is asked of a way to call, of the numbers alone. -/
def condB (y : Way) (as : List AV) (pt : List (Nat × Tok)) (pb : List (Nat × List AV)) (qt : List (Nat × Tok)) (qb : List (Nat × List AV)) : Bool :=
  decide (((y.rt ++ y.nt).map (·.2)).Nodup) && decide (((y.rt ++ y.nt).map (·.1)).Nodup) && decide (((y.rb.map (·.2.1)) ++ y.nb.map (·.2)).Nodup) && decide (((y.rb.map (·.1)) ++ y.nb.map (·.1)).Nodup) &&
  (y.rt.all fun p => (look pt p.1).isSome) && (y.rb.all fun p => (look pb p.1).isSome) && (y.nt.all fun p => (look pt p.1).isNone) && (y.nb.all fun p => (look pb p.1).isNone) && decide ((pt.map (·.1)).Nodup) && decide ((pb.map (·.1)).Nodup) &&
  (pb.all fun p => (look qb p.1).isSome) && freeCv y.rt y.cv && (y.md || noZ qt) && liveW as pt pb && (y.rt.all fun p => decide (p.1 < 1000) || (look qt p.1).isNone)
def freshG : List (Nat × Nat) → List (Nat × Option Tok) → Prop
  | [], _ => True
  | (_, n) :: r, t => look t n = none ∧ freshG r t
def freshGB : List (Nat × Nat) → List (Nat × Option (List AV)) → Prop
  | [], _ => True
  | (_, n) :: r, t => look t n = none ∧ freshGB r t
def condG (y : Way) (args as : List AV) (pt : List (Nat × Tok)) (pb : List (Nat × List AV)) (σ1 : St) : Prop :=
  freshG y.nt σ1.t ∧ freshGB y.nb σ1.b ∧ PassT y.rt σ1 pt ∧ PassB y σ1 (σ1.less y) pb ∧ PasL y (σ1.less y) args as
theorem freshG_spec {t} : ∀ {l}, freshG l t → ∀ p ∈ l, (look t p.2).isNone = true
  | [], _, p, h => by cases h
  | (c, n) :: l, hf, p, h => by
    simp only [freshG] at hf
    rcases List.mem_cons.1 h with rfl | h
    · rw [hf.1]; rfl
    · exact freshG_spec hf.2 p h
theorem freshGB_spec {t} : ∀ {l}, freshGB l t → ∀ p ∈ l, (look t p.2).isNone = true
  | [], _, p, h => by cases h
  | (c, n) :: l, hf, p, h => by
    simp only [freshGB] at hf
    rcases List.mem_cons.1 h with rfl | h
    · rw [hf.1]; rfl
    · exact freshGB_spec hf.2 p h
theorem callG_of {f} {args} {σ} {as} {pt} {pb} {r} {qt} {qb} {K} (y : Way) (h : AG P f as pt pb r qt qb) (hB : condB y as pt pb qt qb = true)
    (hc : CarveK y.cv σ fun σ1 => andX (condG y args as pt pb σ1) (UncarveK y.cv (σ1.after y qt qb) fun σ2 => K (bak y r) σ2)) : CallG P f args σ K := by
  refine ⟨y, as, pt, pb, r, qt, qb, h, carve_mono (fun σ1 h => ?_) hc⟩
  unfold condB at hB
  simp only [Bool.and_eq_true, decide_eq_true_eq, and_assoc] at hB
  obtain ⟨b1, b2, b3, b4, b5, b6, b7, b8, b9, b10, b11, b12, bm, b13, b14⟩ := hB
  obtain ⟨⟨h1, h2, h3, h4, h5⟩, h6⟩ := h
  refine ⟨⟨b1, b2, b3, b4, b5, b6, ?_, ?_, b9, b10⟩, h3, h4, h5, b11, ⟨b12, bm⟩, b13, b14, h6⟩
  · rw [List.all_eq_true] at b7 ⊢
    intro p hp
    rw [b7 p hp, freshG_spec h1 p hp]; rfl
  · rw [List.all_eq_true] at b8 ⊢
    intro p hp
    rw [b8 p hp, freshGB_spec h2 p hp]; rfl
theorem call_g {L} {wL} {f} {args} {o} {w} {as} {pt} {pb} {r} {qt} {qb} (y : Way) (hL : L = true) (h : AG P f as pt pb r qt qb) (hB : condB y as pt pb qt qb = true)
    (hc : CarveK y.cv σ fun σ1 => andX (condG y args as pt pb σ1) (UncarveK y.cv (σ1.after y qt qb) fun σ2 => K (σ2.put dst (bak y r)))) : callY P L pos f args o dst σ K w wL := .inr ⟨hL, [], callG_of (K := fun v σ' => K (σ'.put dst v)) y h hB hc⟩
/-- A call from which on some literals are not written any more. -/
theorem call_f {L} {wL} {f} {args} {o} {w} {as} {pt} {pb} {r} {qt} {qb} (bs : List Nat) (y : Way) (hL : L = true) (h : AG P f as pt pb r qt qb) (hB : condB y as pt pb qt qb = true)
    (hc : FzK bs args σ fun args σ => CarveK y.cv σ fun σ1 => andX (condG y args as pt pb σ1) (UncarveK y.cv (σ1.after y qt qb) fun σ2 => K (σ2.put dst (bak y r)))) : callY P L pos f args o dst σ K w wL := .inr ⟨hL, bs, fzK_mono (fun args σ hc => callG_of (K := fun v σ' => K (σ'.put dst v)) y h hB hc) hc⟩
@[go_sem ↓] theorem fzK_nil {args} {K} : FzK [] args σ K = K args σ := rfl
@[go_sem ↓] theorem fzK_cons {b} {r} {args} {s} {t} {bb} {K} : FzK (b :: r) args ⟨s, t, bb⟩ K = optX ((look bb b).join) fun vs => andX (1000 ≤ b ∧ isMp vs = false) (valX (args.map (fzA b vs)) fun args' => FzK r args' ⟨s, t, (b, none) :: bb⟩ K) := rfl
section
variable {b : Nat} {vs : List AV}
@[go_sem] theorem fzA_bsl {x n sz} : fzA b vs (.bsl x n sz) = (cl (fun _ => none) (only b vs) (.bsl x n sz)).getD (.bsl x n sz) := rfl
@[go_sem] theorem fzA_box {x off} : fzA b vs (.box x off) = (cl (fun _ => none) (only b vs) (.box x off)).getD (.box x off) := rfl
@[go_sem] theorem fzA_agg {us} : fzA b vs (.agg us) = (cl (fun _ => none) (only b vs) (.agg us)).getD (.agg us) := rfl
@[go_sem] theorem fzA_int {k} {n} : fzA b vs (.int k n) = .int k n := rfl
@[go_sem] theorem fzA_bool {x} : fzA b vs (.bool x) = .bool x := rfl
@[go_sem] theorem fzA_str {x} : fzA b vs (.str x) = .str x := rfl
@[go_sem] theorem fzA_ro {x} : fzA b vs (.ro x) = .ro x := rfl
@[go_sem] theorem fzA_own {x} : fzA b vs (.own x) = .own x := rfl
@[go_sem] theorem fzA_rop {x} {off} : fzA b vs (.rop x off) = .rop x off := rfl
@[go_sem] theorem fzA_elt {t sz i off} : fzA b vs (.elt t sz i off) = .elt t sz i off := rfl
@[go_sem] theorem fzA_fn {f} {x} : fzA b vs (.fn f x) = .fn f x := rfl
@[go_sem] theorem fzA_nilp : fzA b vs .nilp = .nilp := rfl
@[go_sem] theorem fzA_nils : fzA b vs .nils = .nils := rfl
@[go_sem] theorem fzA_mpr {x} : fzA b vs (.mpr x) = .mpr x := rfl
@[go_sem] theorem fzA_any : fzA b vs .any = .any := rfl
end
attribute [go_sem] Option.getD_some Option.getD_none Option.join_some Option.bind_some Option.bind_none only
attribute [go_sem] ne_eq true_imp_iff implies_true false_imp_iff flatAt D.flat kept condG freshG freshGB PassT St.less goneT goneB backT backB newT newB St.after bak baks PassB
@[go_sem ↓] theorem carve_nil : CarveK [] σ K = K σ := by rw [CarveK]
@[go_sem ↓] theorem carve_nils {n} {z} {r} {s} {t} {b} : CarveK ((n, .nils, z) :: r) ⟨s, t, b⟩ K = andX (look t n = none) (CarveK r ⟨s, (n, some ⟨[], z, 0, false⟩) :: t, b⟩ K) := by rw [CarveK]; rfl
@[go_sem ↓] theorem carve_bsl {n x m sz} {z} {r} {s} {t} {b} : CarveK ((n, .bsl x m sz, z) :: r) ⟨s, t, b⟩ K = andX (m = 0) (andX (look t n = none) (CarveK r ⟨s, (n, some ⟨[], z, 0, false⟩) :: t, b⟩ K)) := by rw [CarveK]; rfl
@[go_sem ↓] theorem carve_sub {n t' g sz i j : Nat} {r : List (Nat × AV × Option Nat)} {s : List (Nat × AV)} {t : List (Nat × Option Tok)} {b : List (Nat × Option (List AV))} : CarveK ((n, .sub t' g [(sz, i, j)], none) :: r) ⟨s, t, b⟩ K =
    andX (look t n = none ∧ n ≠ t') (optX (look t t').join fun tk => andX (tk.gen = g) (optX (getP [(sz, i, j)] tk.rows) fun rows => rowX (putR [(sz, i, j)] tk.rows .gone) fun rows' => CarveK r ⟨s, (n, some ⟨rows, none, 0, tk.z⟩) :: (t', some ⟨rows', tk.sz, g, tk.z⟩) :: t, b⟩ K)) := by
  rw [CarveK]
  simp only [andX, optX, rowX_eq, List.length_cons, List.length_nil, true_and, Nat.zero_add]
  refine propext ⟨?_, ?_⟩
  · rintro ⟨h2, tk, rows, h4, h5, h6, h7, h8⟩; exact ⟨⟨h2, h7⟩, tk, h4, h5, rows, h6, h8⟩
  · rintro ⟨⟨h2, h7⟩, tk, h4, h5, rows, h6, h8⟩; exact ⟨h2, tk, rows, h4, h5, h6, h7, h8⟩
@[go_sem ↓] theorem unc_nil : UncarveK [] σ K = K σ := by rw [UncarveK]
def unX (n : Nat) (K : St → Prop) (σ : St) : Prop := K { σ with t := (n, none) :: σ.t }
@[go_sem ↓] theorem unX_mk {n} {s} {t} {b} : unX n K ⟨s, t, b⟩ = K ⟨s, (n, none) :: t, b⟩ := rfl
@[go_sem ↓] theorem unc_nils {n} {z} {r} : UncarveK ((n, .nils, z) :: r) σ K = UncarveK r σ (unX n K) := by rw [UncarveK]; rfl; all_goals (intros; simp_all)
@[go_sem ↓] theorem unc_bsl {n x m sz} {z} {r} : UncarveK ((n, .bsl x m sz, z) :: r) σ K = UncarveK r σ (unX n K) := by rw [UncarveK]; rfl; all_goals (intros; simp_all)
def unS (n t' g : Nat) (p : Pth) (K : St → Prop) (σ : St) : Prop := match σ.T n with
  | some tn => ∃ tk, σ.T t' = some tk ∧ getC p tk.rows = some .gone ∧ (n ≠ t' ∧ okZ tk.z tn = true) ∧ K { σ with t := (n, none) :: (t', some ⟨putR p tk.rows (.sl tn.rows), tk.sz, if tn.gen = 0 ∧ tk.gen = g then g else tk.gen + tn.gen + 1, tk.z⟩) :: σ.t }
  | none => K σ
@[go_sem ↓] theorem unc_sub {n t' g} {p} {z} {r} : UncarveK ((n, .sub t' g p, z) :: r) σ K = UncarveK r σ (unS n t' g p K) := by rw [UncarveK]; rfl
def unO (o : Option Tok) (n t' g : Nat) (p : Pth) (K : St → Prop) (σ : St) : Prop := match o with
  | some tn => andX (n ≠ t') (optX (σ.T t') fun tk => andX (okZ tk.z tn = true) (andX (getC p tk.rows = some .gone) (rowX (putR p tk.rows (.sl tn.rows)) fun rows => K ⟨σ.s, (n, none) :: (t', some ⟨rows, tk.sz, if tn.gen = 0 ∧ tk.gen = g then g else tk.gen + tn.gen + 1, tk.z⟩) :: σ.t, σ.b⟩)))
  | none => K σ
@[go_sem ↓] theorem unS_mk {n t' g : Nat} {p : Pth} {s : List (Nat × AV)} {t : List (Nat × Option Tok)} {b : List (Nat × Option (List AV))} : unS n t' g p K ⟨s, t, b⟩ = unO (look t n).join n t' g p K ⟨s, t, b⟩ := by
  unfold unS unO
  have e : St.T ⟨s, t, b⟩ n = (look t n).join := rfl
  rw [e]
  cases (look t n).join with
  | none => rfl
  | some tn =>
    simp only [andX, optX, rowX_eq]
    refine propext ⟨?_, ?_⟩
    · rintro ⟨tk, h1, h2, ⟨h3, h0⟩, h4⟩; exact ⟨h3, tk, h1, h0, h2, h4⟩
    · rintro ⟨h3, tk, h1, h0, h2, h4⟩; exact ⟨tk, h1, h2, ⟨h3, h0⟩, h4⟩
@[go_sem] theorem unO_some {n t' g} {p} {tn} : unO (some tn) n t' g p K σ = andX (n ≠ t') (optX (σ.T t') fun tk => andX (okZ tk.z tn = true) (andX (getC p tk.rows = some .gone) (rowX (putR p tk.rows (.sl tn.rows)) fun rows => K ⟨σ.s, (n, none) :: (t', some ⟨rows, tk.sz, if tn.gen = 0 ∧ tk.gen = g then g else tk.gen + tn.gen + 1, tk.z⟩) :: σ.t, σ.b⟩))) := rfl
@[go_sem] theorem unO_none {n t' g} {p} : unO none n t' g p K σ = K σ := rfl
theorem set_at {α : Type} {l : List α} {i : Nat} {x y : α} (h : l[i]? = some x) : (l.set i y)[i]? = some y := List.getElem?_set_self (lt_of_get h)
theorem getP_1 {rows r} {sz i j} {row} (h : rows[i]? = some row) (hl : row.length = sz) (hj : row[j]? = some (.sl r)) : getP [(sz, i, j)] rows = some r := by
  simp only [getP, h, hl, if_true, hj]
theorem getC_1 {rows} {sz i j} {row} {d} (h : rows[i]? = some row) (hl : row.length = sz) (hj : row[j]? = some d) : getC [(sz, i, j)] rows = some d := by
  simp only [getC, h, hl, if_true, hj]
theorem putR_1 {rows} {sz i j} {row} {d d'} (h : rows[i]? = some row) (hj : row[j]? = some d') : putR [(sz, i, j)] rows d = rows.set i (row.set j d) := by
  unfold putR
  rw [Ab.put, h]
  simp only [hj, Ab.put]
theorem row_put {rows : List (List D)} {sz i j : Nat} {row : List D} {d d' : D} (h : rows[i]? = some row) (hj : row[j]? = some d') : (putR [(sz, i, j)] rows d)[i]? = some (row.set j d) := by
  rw [putR_1 h hj]; exact set_at h
section
variable {y : Way} {σ0 : St}
@[go_sem] theorem pasL_nil : PasL y σ0 [] [] = True := by simp only [PasL]
@[go_sem] theorem pasL_cons {a b} {as bs} : PasL y σ0 (a :: as) (b :: bs) = (PasA y σ0 a b ∧ PasL y σ0 as bs) := by simp only [PasL]
@[go_sem] theorem pas_own {n c} : PasA y σ0 (.own n) (.own c) = (look y.rt c = some n ∨ ∃ z, ∃ m, look y.rt c = some m ∧ look y.cv m = some (.own n, z)) := by
  simp only [PasA]
  refine propext ⟨?_, ?_⟩
  · rintro ⟨m, h1, h2 | ⟨z, h2⟩⟩
    · cases h2; exact .inl h1
    · exact .inr ⟨z, m, h1, h2⟩
  · rintro (h | ⟨z, m, h1, h2⟩)
    · exact ⟨n, h, .inl rfl⟩
    · exact ⟨m, h1, .inr ⟨z, h2⟩⟩
def cvX (o : Option (AV × Option Nat)) (a : AV) : Prop := match o with | some x => x.1 = a | none => False
theorem cvX_iff {o} {a} : (∃ z, o = some (a, z)) = cvX o a := by
  unfold cvX
  cases o with
  | none => simp
  | some x => obtain ⟨b, z⟩ := x; simp
def rtX (o : Option Nat) (K : Nat → Prop) : Prop := match o with | some n => K n | none => False
@[go_sem] theorem rtX_some {n} {K} : rtX (some n) K = K n := rfl
@[go_sem] theorem cvX_some {x} {a} : cvX (some x) a = (x.1 = a) := rfl
theorem rtX_iff {o} {p} : (∃ n, o = some n ∧ p n) = rtX o p := by
  cases o <;> simp [rtX]
@[go_sem] theorem pas_sub {t g c} {p} : PasA y σ0 (.sub t g p) (.own c) = rtX (look y.rt c) fun n => cvX (look y.cv n) (.sub t g p) := by
  rw [← rtX_iff]
  simp only [PasA, reduceCtorEq, false_or, cvX_iff]
@[go_sem] theorem pas_nils {c} : PasA y σ0 .nils (.own c) = rtX (look y.rt c) fun n => cvX (look y.cv n) .nils := by
  rw [← rtX_iff]
  simp only [PasA, reduceCtorEq, false_or, cvX_iff]
@[go_sem] theorem pas_bsl {x m sz c} : PasA y σ0 (.bsl x m sz) (.own c) = rtX (look y.rt c) fun n => cvX (look y.cv n) (.bsl x m sz) := by
  rw [← rtX_iff]
  simp only [PasA, reduceCtorEq, false_or, cvX_iff]
@[go_sem] theorem pas_box {n off b off'} : PasA y σ0 (.box n off) (.box b off') = match look y.rb b with | some q => n = q.1 ∧ off = q.2 + off' | none => False := by
  simp only [PasA, AV.box.injEq]
  cases look y.rb b <;> simp
@[go_sem] theorem pas_elt {n sz i off c sz' i' off'} : PasA y σ0 (.elt n sz i off) (.elt c sz' i' off') = rtX (look y.rt c) fun m => n = m ∧ sz = sz' ∧ i = i' ∧ off = off' := by
  rw [← rtX_iff]
  simp only [PasA, AV.elt.injEq]
@[go_sem] theorem pas_agg {vs us} : PasA y σ0 (.agg vs) (.agg us) = PasL y σ0 vs us := by simp only [PasA]
@[go_sem] theorem pas_fn {f f'} {vs us} : PasA y σ0 (.fn f vs) (.fn f' us) = (f = f' ∧ PasL y σ0 vs us) := by simp only [PasA]
@[go_sem] theorem pas_mpr {n b} : PasA y σ0 (.mpr n) (.mpr b) = match look y.rb b with | some q => n = q.1 | none => False := by
  simp only [PasA, AV.mpr.injEq]
  cases look y.rb b <;> simp
def clW (y : Way) (σ0 : St) (a : AV) : Option AV := cl (if y.md = true then fun _ => none else σ0.T) (if y.md = true then fun _ => none else σ0.B) a
@[go_sem] theorem pas_int {a} {k} {n} : PasA y σ0 a (.int k n) = (clW y σ0 a = some (.int k n)) := by cases a <;> simp only [PasA, clW]
@[go_sem] theorem pas_bool {a} {b} : PasA y σ0 a (.bool b) = (clW y σ0 a = some (.bool b)) := by cases a <;> simp only [PasA, clW]
@[go_sem] theorem pas_str {a} {s} : PasA y σ0 a (.str s) = (clW y σ0 a = some (.str s)) := by cases a <;> simp only [PasA, clW]
@[go_sem] theorem pas_ro {a} {rows} : PasA y σ0 a (.ro rows) = (clW y σ0 a = some (.ro rows)) := by cases a <;> simp only [PasA, clW]
@[go_sem] theorem pas_rop {a} {vs} {off} : PasA y σ0 a (.rop vs off) = narR (clW y σ0 a) vs off := by cases a <;> simp only [PasA, clW]
@[go_sem] theorem narR_rop {us} {o'} {vs} {off} : narR (some (.rop us o')) vs off = ((us = vs ∧ o' = off) ∨ (off = 0 ∧ vcells us o' vs.length = vs)) := rfl
@[go_sem] theorem pas_nilp {a} : PasA y σ0 a .nilp = (clW y σ0 a = some .nilp) := by cases a <;> simp only [PasA, clW]
@[go_sem] theorem pas_mpc {a} {q} {rows} : PasA y σ0 a (.mpc q rows) = (clW y σ0 a = some (.mpc q rows)) := by cases a <;> simp only [PasA, clW]
@[go_sem] theorem pas_any {a} : PasA y σ0 a .any = (clW y σ0 a = some .any) := by cases a <;> simp only [PasA, clW]
@[go_sem] theorem clW_md {cv rt rb nt nb} {a} : clW ⟨cv, rt, rb, nt, nb, true⟩ σ0 a = cl (fun _ => none) (fun _ => none) a := by simp [clW]
@[go_sem] theorem clW_no {cv rt rb nt nb} {a} : clW ⟨cv, rt, rb, nt, nb, false⟩ σ0 a = cl σ0.T σ0.B a := by simp [clW]
end
def nilY (P : Program) (t : TypeId) (v : AV) (σ : St) (K : Bool → Prop) (_ : Wrap K) : Prop := nilT P t v σ K
theorem nil_i {rows} {K} {w} (h : slP (ti P t)) (h0 : rows = [] → K true) (h1 : K false) : nilY P t (.ro rows) σ K w := nilT_ro h h0 h1
@[go_sem] theorem nilY_nils {K} {w} : nilY P t .nils σ K w = andX (slP (ti P t)) (K true) := nilT_nils
@[go_sem] theorem nilY_bsl {b n sz} {K} {w} : nilY P t (.bsl b n sz) σ K w = andX (slP (ti P t)) (K false) := nilT_bsl

/-! Maps. -/
@[go_sem ↓] theorem w_makeMap : opX P pos dst (.makeMap t none) σ K = optX (mapKt P t) fun q => andX (look σ.b pos = none) (K ((σ.put dst (.mpr pos)).setB pos [.mpc q []])) := by
  rw [ev_add (fun _ => by simp only [aop])]
  simp only [Ev, optX, andX]
  refine propext ⟨?_, ?_⟩
  · rintro ⟨r, ⟨q, h1, rfl⟩, -, h2, h3⟩
    exact ⟨q, h1, h2.1, by rw [← add_box]; exact h3⟩
  · rintro ⟨q, h1, h2, h3⟩
    exact ⟨_, ⟨q, h1, rfl⟩, trivial, ⟨h2, trivial⟩, by rw [add_box]; exact h3⟩
def lkR (ok : Bool) (o : Option D) (z : AV) (K : AV → Prop) : Prop := K (if ok = true then .tup [(o.map ofD).getD z, .bool o.isSome] else (o.map ofD).getD z)
@[go_sem] theorem lkR_no {o} {z} {K} : lkR false o z K = valX ((o.map ofD).getD z) K := by simp [lkR, valX]
@[go_sem] theorem lkR_ok {o} {z} {K} : lkR true o z K = valX ((o.map ofD).getD z) fun v => valX o.isSome fun b => K (.tup [v, .bool b]) := by simp [lkR, valX]
def lkX (P : Program) (t : TypeId) (u v : AV) (ok : Bool) (σ : St) (K : AV → Prop) : Prop := ∃ r, LookM P σ.B t u v ok r ∧ K r
@[go_sem] theorem lkX_mpr {b} {v} {ok} {K} : lkX P t (.mpr b) v ok σ K = mapX (ti P t) fun kt et => mpcX (σ.B b) fun q rows => andX (ktOf P kt = some q) (optX (keyD v) fun k => andX (isKB q k = true) (optX (tz1 P et) fun z => valX (zAV z) fun z' => valX (mfind k rows) fun o => lkR ok o z' K)) := by
  simp only [lkX, LookM, mapX, mpcX, andX, optX, valX, lkR]
  generalize ti P t = w
  cases w with
  | map kt et =>
    simp only
    refine propext ⟨?_, ?_⟩
    · rintro ⟨r, ⟨q, rows, h1, h2, k, h3, h4, z, h5, rfl⟩, h6⟩; exact ⟨q, rows, h1, h2, k, h3, h4, z, h5, h6⟩
    · rintro ⟨q, rows, h1, h2, k, h3, h4, z, h5, h6⟩; exact ⟨_, ⟨q, rows, h1, h2, k, h3, h4, z, h5, rfl⟩, h6⟩
  | _ => simp
@[go_sem ↓] theorem w_lookup {ok} : opX P pos dst (.lookup t x y ok) σ K = valX (σ.e x) fun u => valX (σ.e y) fun v => lkX P t u v ok σ fun r => K (σ.put dst r) :=
  ev_eq (p := fun v => LookM P σ.B t (σ.e x) (σ.e y) ok v) (fun _ => by simp only [aop]) (fun r => by simp only [Ev])
def flat1 (a : AV) : Option D := match flatDs [a] with | some [d] => some d | _ => none
@[go_sem] theorem flat1_int {k} {n} : flat1 (.int k n) = some (.int k n) := rfl
@[go_sem] theorem flat1_bool {b} : flat1 (.bool b) = some (.bool b) := rfl
@[go_sem] theorem flat1_str {s} : flat1 (.str s) = some (.str s) := rfl
theorem flat1_eq {a} {d} : flatDs [a] = some [d] ↔ flat1 a = some d := by
  unfold flat1
  cases a <;> simp [flatDs]
def muX (P : Program) (t : TypeId) (u v x : AV) (σ : St) (K : St → Prop) : Prop := MapK P t u v x σ K
@[go_sem] theorem muX_mpr {b : Nat} {v x : AV} : muX P t (.mpr b) v x σ K = mapX (ti P t) fun kt et => mpcX (σ.B b) fun q rows => andX (rows.length < 68719476736) (andX (ktOf P kt = some q) (optX (keyD v) fun k => andX (isKB q k = true) (optX (flat1 x) fun d => rowX (mput k d rows) fun rows' => K (σ.setB b [.mpc q rows'])))) := by
  simp only [muX, MapK, mapX, mpcX, andX, optX, rowX_eq]
  generalize ti P t = w
  cases w with
  | map kt et =>
    simp only [flat1_eq]
  | _ => rfl
@[go_sem ↓] theorem w_mapUpdate {m i} : opX P pos dst (.mapUpdate t m i x) σ K = valX (σ.e m) fun u => valX (σ.e i) fun v => valX (σ.e x) fun z => muX P t u v z σ fun σ' => K (σ'.put dst .any) := by
  unfold opX
  simp only [aop, valX, muX]
attribute [go_sem] keyD
@[go_sem] theorem isKB_int {k} {n} : isKB (.int k) (.int k n) = true := by simp [isKB]
@[go_sem] theorem isKB_str {s} : isKB .str (.str s) = true := rfl

@[go_sem ↓] theorem w_pick : opX P pos dst (.pick c a b) σ K = valX (σ.e c) fun u => valX (σ.e a) fun v => valX (σ.e b) fun w => pickX u v w fun v => K (σ.put dst v) := o_pick
@[go_sem ↓] theorem w_load : opX P pos dst (.load t a) σ K = valX (σ.e a) fun u => loadX P t u σ fun v => K (σ.put dst v) := o_load
@[go_sem ↓] theorem w_nilCheck : opX P pos dst (.nilCheck x) σ K = valX (σ.e x) fun u => nilX u fun v => K (σ.put dst v) := o_nilCheck
@[go_sem ↓] theorem w_bin_tmp {y} : opX P pos dst (.binOp op t x (.tmp y) t') σ K = valX (σ.e x) fun u => valX (σ.g y) fun v => binX P op t u v fun v => K (σ.put dst v) := o_bin_tmp
@[go_sem ↓] theorem w_bin_int {k} {n} : opX P pos dst (.binOp op t x (.const (.int k n)) t') σ K = valX (σ.e x) fun u => binX P op t u (.int k n) fun v => K (σ.put dst v) := o_bin_int
@[go_sem ↓] theorem w_bin_bool {b} : opX P pos dst (.binOp op t x (.const (.bool b)) t') σ K = valX (σ.e x) fun u => binX P op t u (.bool b) fun v => K (σ.put dst v) := o_bin_bool
@[go_sem ↓] theorem w_bin_str {b} : opX P pos dst (.binOp op t x (.const (.string b)) t') σ K = valX (σ.e x) fun u => binX P op t u (.str b) fun v => K (σ.put dst v) := o_bin_str
@[go_sem ↓] theorem w_bin_nilp : opX P pos dst (.binOp op t x (.const (.pointer none)) t') σ K = valX (σ.e x) fun u => binX P op t u .nilp fun v => K (σ.put dst v) := o_bin_nilp
@[go_sem ↓] theorem w_eq_nil : opX P pos dst (.binOp .eql t x (.const (.slice none 0 0)) t') σ K = valX (σ.e x) fun u => nilY P t u σ (fun b => K (σ.put dst (.bool b))) ⟨⟩ := o_eq_nil
@[go_sem ↓] theorem w_ne_nil : opX P pos dst (.binOp .neq t x (.const (.slice none 0 0)) t') σ K = valX (σ.e x) fun u => nilY P t u σ (fun b => K (σ.put dst (.bool !b))) ⟨⟩ := o_ne_nil
@[go_sem ↓] theorem w_unOp {op} : opX P pos dst (.unOp op t x) σ K = valX (σ.e x) fun u => unoX op u fun v => K (σ.put dst v) := o_unOp
@[go_sem ↓] theorem w_convert : opX P pos dst (.convert s d x) σ K = valX (σ.e x) fun u => convX P s d u σ fun v => K (σ.put dst v) := o_convert
@[go_sem ↓] theorem w_fieldAddr : opX P pos dst (.fieldAddr s x f) σ K = valX (σ.e x) fun u => faX P s u f fun v => K (σ.put dst v) := o_fieldAddr
@[go_sem ↓] theorem w_field : opX P pos dst (.field s x f) σ K = valX (σ.e x) fun u => fdX P s u f fun v => K (σ.put dst v) := o_field
@[go_sem ↓] theorem w_indexAddr : opX P pos dst (.indexAddr t x y) σ K = valX (σ.e x) fun u => valX (σ.e y) fun v => iaX P t u v σ fun v => K (σ.put dst v) := o_indexAddr
@[go_sem ↓] theorem w_slice {l h} : opX P pos dst (.slice t x l h none) σ K = valX (σ.e x) fun u => slcX P σ.T t u (l.map σ.e) (h.map σ.e) fun v => K (σ.put dst v) := o_slice
/-- A part of a slice of the call's own, which stays: to be read. -/
theorem slp_i {t el} {x} {l h} {n} {tk} {i j} {r} {L} {w1 w2 w3} (he : σ.e x = .own n) (hT : σ.T n = some tk) (hu : ti P t = .sl el) (hz : 0 < tsz P el) (hr : ∀ row ∈ tk.rows, row.length = tsz P el) (hi : bndI (l.map σ.e) 0 = some i) (hj : bndI (h.map σ.e) tk.rows.length = some j) (hc : cutL tk.rows i j = some r)
    (k : K (σ.put dst (.par n (tsz P el) i.toNat (j - i).toNat))) : sliY P L pos dst (.slice t x l h none) (.own n) σ K w1 w2 w3 := by
  refine .inl ?_
  rw [o_slice, he]
  exact ⟨_, .inr ⟨tk, hT, el, hu, ⟨hz, hr⟩, i, hi, j, hj, r, hc, rfl⟩, k⟩
@[go_sem ↓] theorem w_index : opX P pos dst (.index t x y) σ K = valX (σ.e x) fun u => valX (σ.e y) fun v => elX P t u v fun v => K (σ.put dst v) := o_index
@[go_sem ↓] theorem w_extract : opX P pos dst (.extract x i) σ K = valX (σ.e x) fun u => extX u i fun v => K (σ.put dst v) := o_extract
@[go_sem ↓] theorem w_len : opX P pos dst (.call ⟨.builtin .len, List.toArray [x], List.toArray [t]⟩) σ K = valX (σ.e x) fun u => lenX P t u σ fun v => K (σ.put dst v) := o_len
@[go_sem ↓] theorem w_max {ts} : opX P pos dst (.call ⟨.builtin .max, List.toArray [x, y], ts⟩) σ K = valX (σ.e x) fun u => valX (σ.e y) fun v => twoX (fun n m => if n < m then m else n) u v fun v => K (σ.put dst v) := o_max
@[go_sem ↓] theorem w_min {ts} : opX P pos dst (.call ⟨.builtin .min, List.toArray [x, y], ts⟩) σ K = valX (σ.e x) fun u => valX (σ.e y) fun v => twoX (fun n m => if m < n then m else n) u v fun v => K (σ.put dst v) := o_min
@[go_sem ↓] theorem w_box : opX P pos dst (.box t x) σ K = valX (cellsOf (σ.e x)) fun cs => bxX pos cs dst (.box pos 0) σ K := o_box
@[go_sem ↓] theorem w_alloc : opX P pos dst (.alloc t) σ K = andX (0 < (tz P t).length) (valX ((tz P t).map zAV) fun vs => bxX pos (some vs) dst (.box pos 0) σ K) := o_alloc
@[go_sem ↓] theorem w_build {parts} : opX P pos dst (.build t parts.toArray) σ K = stX' P (ti P t) fun fs => andX ((fs.all fun q => decide (0 < tsz P q.2)) = true ∧ 0 < (tz P t).length) (valX ((tz P t).map zAV) fun vs => valX (pvs σ parts) fun ps => bpX P fs vs ps fun v => K (σ.put dst v)) := o_build
@[go_sem ↓] theorem w_makeSlice : opX P pos dst (.makeSlice t l c) σ K = slX (ti P t) fun e => valX (σ.e l) fun u => valX (σ.e c) fun v => mkX P pos e u v dst σ K := o_makeSlice
@[go_sem ↓] theorem w_call {L} {wL} {args} {ts} : opL P L pos dst (.call ⟨.value g, args.toArray, ts⟩) σ K wL = valX (σ.e g) fun u => valX (evs σ args) fun vs => clX P L pos u vs dst σ K wL := o_call
@[go_sem ↓] theorem w_store : opX P pos dst (.store t a x) σ K = valX (σ.e a) fun u => valX (cellsOf (σ.e x)) fun cs => stX P t u cs σ fun σ' => K (σ'.put dst .any) := o_store
@[go_sem ↓] theorem w_append : opX P pos dst (.call ⟨.builtin .append, List.toArray [x, y], List.toArray [t, t]⟩) σ K = slX (ti P t) fun e => valX (σ.e x) fun u => valX (σ.e y) fun v => apX P pos e u v dst σ K := o_append
/-- An append to nothing, ahead in a region whose order is drawn. -/
def apE (P : Program) (pos : Nat) (e : TypeId) (u v : AV) (dst : Option Tmp) (σ : St) (K : St → Prop) : Prop := noneA u = true ∧ match v with
  | .ro rows => (0 < tsz P e ∧ (tz P e).length = tsz P e) ∧ ∃ z, roZ z (tsz P e) rows fun rows => (rows.length * P.bytesOf e ≤ 140737488355328 ∧ rows.length ≤ maxLen) ∧ look σ.t (pos * 16) = none ∧ K ((σ.setT (pos * 16) ⟨rows, some (tsz P e), 0, z⟩).put dst (.own (pos * 16)))
  | _ => False
theorem roZ_mono {z} {sz} {rows} {K K'} (h : ∀ r, K r → K' r) (k : roZ z sz rows K) : roZ z sz rows K' := by
  cases z
  · exact ⟨k.1, h _ k.2⟩
  · exact ⟨k.1, h _ k.2⟩
def roX (z : Bool) (sz : Nat) (rows : List (List D)) (K : List (List D) → Prop) : Prop := roZ z sz rows K
@[go_sem] theorem roX_f {sz} {rows} {K} : roX false sz rows K = andX (∀ row ∈ rows, row.length = sz ∧ ∀ d ∈ row, d.flat = true) (K rows) := rfl
@[go_sem] theorem roX_t {sz : Nat} {rows : List (List D)} {K : List (List D) → Prop} : roX true sz rows K = andX (∀ row ∈ rows, row.length = sz ∧ ∀ d ∈ row, d ≠ .gone) (rowX (fzR rows) fun r => K r) := by
  simp only [roX, roZ, andX, rowX_eq]
@[go_sem] theorem apE_ro {e : TypeId} {u : AV} {rows : List (List D)} : apE P pos e u (.ro rows) dst σ K = andX (noneA u = true) (andX (0 < tsz P e ∧ (tz P e).length = tsz P e) (zX fun z => roX z (tsz P e) rows fun rows => andX (rows.length * P.bytesOf e ≤ 140737488355328 ∧ rows.length ≤ maxLen) (andX (look σ.t (pos * 16) = none) (rowX rows fun rows => K ((σ.setT (pos * 16) ⟨rows, some (tsz P e), 0, z⟩).put dst (.own (pos * 16))))))) := by simp only [rowX_eq]; rfl
@[go_sem ↓] theorem w_appE : opE P pos dst (.call ⟨.builtin .append, List.toArray [x, y], List.toArray [t, t]⟩) σ K = slX (ti P t) fun e => valX (σ.e x) fun u => valX (σ.e y) fun v => apE P pos e u v dst σ K := by
  unfold opE
  simp only [Ev, AppE, slX, true_and, valX]
  generalize σ.e x = u
  generalize σ.e y = v
  refine propext ⟨?_, ?_⟩
  · rintro ⟨r, ⟨h1, h2⟩, h3, h4, h5⟩
    split at h2
    · rename_i el rows hel
      obtain ⟨h6, z, h7⟩ := h2
      rw [hel]
      refine ⟨h1, h6, z, roZ_mono (fun rows h8 => ?_) h7⟩
      obtain ⟨h9, rfl⟩ := h8
      refine ⟨h9, h3.1, ?_⟩
      cases dst <;> exact h5
    · exact h2.elim
  · intro h
    generalize hti : ti P t = q at h ⊢
    cases q with
    | sl el =>
      cases v with
      | ro rows =>
        obtain ⟨h1, h6, z, h7⟩ := h
        cases z with
        | false =>
          obtain ⟨h8, h9, h10, h5⟩ := h7
          exact ⟨_, ⟨h1, h6, false, h8, h9, rfl⟩, ⟨h10, trivial⟩, trivial, by cases dst <;> exact h5⟩
        | true =>
          obtain ⟨h8, h9, h10, h5⟩ := h7
          exact ⟨_, ⟨h1, h6, true, h8, h9, rfl⟩, ⟨h10, trivial⟩, trivial, by cases dst <;> exact h5⟩
      | _ => exact h.2.elim
    | _ => exact h.elim
@[go_sem ↓] theorem apX_eq {e : TypeId} {u v : AV} : apX P pos e u v dst σ K = andX (0 < tsz P e ∧ (tz P e).length = tsz P e) (zX fun z => AppX z e (tsz P e) u σ fun rows σ1 => AppY z (tsz P e) v σ1 fun rows2 σ2 =>
      andX ((rows.length + rows2.length) * P.bytesOf e ≤ 140737488355328 ∧ rows.length + rows2.length ≤ maxLen) (andX (look σ2.t (pos * 16) = none) (rowX (rows ++ rows2) fun rows => K ((σ2.setT (pos * 16) ⟨rows, some (tsz P e), 0, z⟩).put dst (.own (pos * 16)))))) := by simp only [rowX_eq]; rfl
end
attribute [go_sem] zAV

/-! ### Long regions: lists of operations that stand as one behind the other -/
section
variable {P : Program} {σ : St} {K : St → Prop} {ops : Array Oper} {base cut i : Nat}
@[go_sem] theorem x_app_cons {x} {xs b} {w1} {w2} {w3} {w4} : aopsY P ops base cut i (List.append (x :: xs) b) σ K w1 w2 w3 w4 = aopsY P ops base cut i (x :: List.append xs b) σ K w1 ⟨⟩ w3 w4 := rfl
@[go_sem] theorem x_app_nil {b} {w1} {w2} {w3} {w4} : aopsY P ops base cut i (List.append [] b) σ K w1 w2 w3 w4 = aopsY P ops base cut i b σ K w1 ⟨⟩ w3 w4 := rfl
@[go_sem] theorem x_app_app {a b c} {w1} {w2} {w3} {w4} : aopsY P ops base cut i (List.append (List.append a b) c) σ K w1 w2 w3 w4 = aopsY P ops base cut i (List.append a (List.append b c)) σ K w1 ⟨⟩ w3 w4 := by
  unfold aopsY; rw [show List.append (List.append a b) c = List.append a (List.append b c) from List.append_assoc a b c]
@[go_sem ↓] theorem slotX_app_zero {dst} {op} {type} {ps} {after} {g} {rest b} {K} : slotX (List.toArray (List.append (⟨some dst, op, type, ps, after, g⟩ :: rest) b)) 0 K = K dst := by
  show slotX (List.toArray (_ :: List.append rest b)) 0 K = K dst
  exact slotX_zero
@[go_sem ↓] theorem slotX_app_succ {o} {rest b} {j} {K} : slotX (List.toArray (List.append (o :: rest) b)) (j + 1) K = slotX (List.toArray (List.append rest b)) j K := by
  show slotX (List.toArray (o :: List.append rest b)) (j + 1) K = _
  exact slotX_succ
@[go_sem ↓] theorem slotX_app_nil {b} {j} {K} : slotX (List.toArray (List.append [] b)) j K = slotX b.toArray j K := rfl
@[go_sem ↓] theorem slotX_app_app {a b c} {j} {K} : slotX (List.toArray (List.append (List.append a b) c)) j K = slotX (List.toArray (List.append a (List.append b c))) j K := by
  rw [show List.append (List.append a b) c = List.append a (List.append b c) from List.append_assoc a b c]
@[go_sem] theorem all_app {a b : List Oper} {p : Oper → Bool} : List.all (List.append a b) p = (List.all a p && List.all b p) := List.all_append
end
end Go.Proofs.Ytgigfdghecdlgaa.Ab
