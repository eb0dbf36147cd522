/-
  The abstract walk as rules, third part: memory, calls, results, loops.
-/
import Derived.Test.YtfbnlkaggggmiaaAbU
namespace Go.Proofs.Ytfbnlkaggggmiaa.Ab
set_option linter.unusedVariables false
open Go.RowKit
section
variable {P : Program} {σ : St} {K : St → Prop} {Q : AE → St → Prop}

def strT (t : TI) : Prop := match t with | .str => True | _ => False
@[go_sem] theorem strT_str : strT .str = True := rfl
@[go_sem] theorem len_str {t : TypeId} {s : ByteArray} {K : AV → Prop} : lenX P t (.str s) σ K = andX (strT (ti P t)) (K (.int .i64 s.size)) := by
  simp only [lenX, LenA, andX, strT]
  generalize ti P t = q
  cases q <;> simp
@[go_sem] theorem len_ro {t : TypeId} {rows : List (List D)} {K : AV → Prop} : lenX P t (.ro rows) σ K = slX (ti P t) fun _ => K (.int .i64 rows.length) := by
  simp only [lenX, LenA, slX]
  generalize ti P t = q
  cases q <;> simp
@[go_sem] theorem len_nils {t : TypeId} {K : AV → Prop} : lenX P t .nils σ K = slX (ti P t) fun _ => K (.int .i64 0) := by
  simp only [lenX, LenA, slX]
  generalize ti P t = q
  cases q <;> simp
@[go_sem] theorem len_bsl {t : TypeId} {b n sz : Nat} {K : AV → Prop} : lenX P t (.bsl b n sz) σ K = slX (ti P t) fun _ => K (.int .i64 n) := by
  simp only [lenX, LenA, slX]
  generalize ti P t = q
  cases q <;> simp
@[go_sem] theorem len_own {t : TypeId} {t' : Nat} {K : AV → Prop} : lenX P t (.own t') σ K = slX (ti P t) fun _ => optX (σ.T t') fun tk => K (.int .i64 tk.rows.length) := by
  simp only [lenX, LenA, slX, optX]
  generalize ti P t = q
  cases q with
  | sl e => exact propext ⟨fun ⟨v, ⟨tk, h1, h2⟩, h3⟩ => ⟨tk, h1, h2 ▸ h3⟩, fun ⟨tk, h1, h3⟩ => ⟨_, ⟨tk, h1, rfl⟩, h3⟩⟩
  | _ => simp
@[go_sem] theorem len_sub {t : TypeId} {t' g : Nat} {p : Pth} {K : AV → Prop} : lenX P t (.sub t' g p) σ K = slX (ti P t) fun _ => optX (subR σ.T t' g p) fun rows => K (.int .i64 rows.length) := by
  simp only [lenX, LenA, slX, optX]
  generalize ti P t = q
  cases q with
  | sl e => exact propext ⟨fun ⟨v, ⟨tk, h1, h2⟩, h3⟩ => ⟨tk, h1, h2 ▸ h3⟩, fun ⟨tk, h1, h3⟩ => ⟨_, ⟨tk, h1, rfl⟩, h3⟩⟩
  | _ => simp

/-- Rows, to be told in another form. -/
def rowX {α : Type} (v : α) (K : α → Prop) : Prop := ∃ y, v = y ∧ K y
theorem rowX_eq {α : Type} {v : α} {K : α → Prop} : rowX v K = K v := by simp [rowX]
/-! Boxes. -/
def bxX (pos : Nat) (cs : Option (List AV)) (dst : Option Tmp) (v : AV) (σ : St) (K : St → Prop) : Prop := optX cs fun vs => andX (look σ.b pos = none) (K ((σ.put dst v).setB pos vs))
@[go_sem] theorem bxX_some {pos : Nat} {vs : List AV} {dst : Option Tmp} {v : AV} : bxX pos (some vs) dst v σ K = andX (look σ.b pos = none) (K ((σ.put dst v).setB pos vs)) := by simp [bxX, optX]
theorem add_box {dst : Option Tmp} {v : AV} {pos : Nat} {vs : List AV} : σ.add dst ⟨v, [], [(pos, vs)]⟩ = (σ.put dst v).setB pos vs := by cases dst <;> rfl
attribute [go_sem] cellsOf
theorem o_box {pos : Nat} {dst : Option Tmp} {t : TypeId} {x : Operand} : opX P pos dst (.box t x) σ K = bxX pos (cellsOf (σ.e x)) dst (.box pos 0) σ K := by
  rw [ev_add (fun _ => by simp only [aop])]
  simp only [Ev, bxX]
  split
  · rename_i vs h
    rw [h, optX_some]
    refine propext ⟨?_, ?_⟩
    · rintro ⟨r, rfl, -, h1, h2⟩
      exact ⟨h1.1, by rw [← add_box]; exact h2⟩
    · rintro ⟨h1, h2⟩
      exact ⟨_, rfl, trivial, ⟨h1, trivial⟩, by rw [add_box]; exact h2⟩
  · rename_i h
    rw [h, optX_none]
    simp
theorem o_alloc {pos : Nat} {dst : Option Tmp} {t : TypeId} : opX P pos dst (.alloc t) σ K = andX (0 < (tz P t).length) (bxX pos (some ((tz P t).map zAV)) dst (.box pos 0) σ K) := by
  rw [ev_add (fun _ => by simp only [aop])]
  simp only [Ev, bxX, optX_some, andX]
  refine propext ⟨?_, ?_⟩
  · rintro ⟨r, ⟨vs, rfl, h0, rfl⟩, -, h1, h2⟩
    exact ⟨h0, h1.1, by rw [← add_box]; exact h2⟩
  · rintro ⟨h0, h1, h2⟩
    exact ⟨_, ⟨_, rfl, h0, rfl⟩, trivial, ⟨h1, trivial⟩, by rw [add_box]; exact h2⟩
attribute [go_sem] zAV
def pvs (σ : St) : List (Nat × Operand) → List (Nat × AV)
  | [] => []
  | x :: xs => (x.1, σ.e x.2) :: pvs σ xs
theorem pvs_map {xs : List (Nat × Operand)} : pvs σ xs = xs.map fun x => (x.1, σ.e x.2) := by induction xs with | nil => rfl | cons x xs ih => simp [pvs, ih]
attribute [go_sem] pvs partsCells
def bsX (P : Program) (pos : Nat) (e : TypeId) (n : Nat) (parts : List (Nat × AV)) (dst : Option Tmp) (σ : St) (K : St → Prop) : Prop :=
  andX (parts.length = n ∧ n * tsz P e ≤ 16777216 ∧ 0 < tsz P e ∧ (tz P e).length = tsz P e) (bxX pos (partsCells (tsz P e) 0 parts) dst (.bsl pos n (tsz P e)) σ K)
@[go_sem ↓] theorem o_buildSlice {pos : Nat} {dst : Option Tmp} {t : TypeId} {n : Nat} {parts : List (Nat × Operand)} : opX P pos dst (.buildSlice t n parts.toArray) σ K = slX (ti P t) fun e => valX (pvs σ parts) fun ps => bsX P pos e n ps dst σ K := by
  rw [ev_add (fun _ => by simp only [aop])]
  simp only [Ev, slX, valX, pvs_map]
  generalize ti P t = q
  split
  · simp only [BuildS, bsX, bxX, andX]
    refine propext ⟨?_, ?_⟩
    · rintro ⟨r, ⟨h1, h2, h3, h4, h5⟩, -, h6, h7⟩
      split at h5
      · rename_i vs h8
        subst h5
        rw [h8, optX_some]
        exact ⟨⟨h1, h2, h3, h4⟩, h6.1, by rw [← add_box]; exact h7⟩
      · exact h5.elim
    · rintro ⟨⟨h1, h2, h3, h4⟩, vs, h8, h6, h7⟩
      exact ⟨⟨_, [], [(pos, vs)]⟩, ⟨h1, h2, h3, h4, by rw [h8]⟩, trivial, ⟨h6, trivial⟩, by rw [add_box]; exact h7⟩
  · simp
attribute [go_sem] bsX

def stX' (t : TI) (K : List (Nat × TypeId) → Prop) : Prop := match t with | .st fs => K fs | _ => False
@[go_sem] theorem stX'_st {fs : List (Nat × TypeId)} {K : List (Nat × TypeId) → Prop} : stX' (.st fs) K = K fs := rfl
def bpX (P : Program) (fs : List (Nat × TypeId)) (vs : List AV) (ps : List (Nat × AV)) (K : AV → Prop) : Prop := ∃ ws, buildP P fs vs ps = some ws ∧ K (.agg ws)
@[go_sem] theorem bpX_nil {fs : List (Nat × TypeId)} {vs : List AV} {K : AV → Prop} : bpX P fs vs [] K = K (.agg vs) := by simp [bpX, buildP]
@[go_sem] theorem bpX_cons {fs : List (Nat × TypeId)} {vs : List AV} {f : Nat} {v : AV} {ps : List (Nat × AV)} {K : AV → Prop} : bpX P fs vs ((f, v) :: ps) K = optX fs[f]? fun q => optX (cellsOf v) fun cs => andX (cs.length = tsz P q.2 ∧ q.1 + cs.length ≤ vs.length) (valX (splice vs q.1 cs) fun vs => bpX P fs vs ps K) := by
  unfold bpX optX andX valX
  rw [buildP]
  cases fs[f]? with
  | none => simp
  | some q =>
    cases cellsOf v with
    | none => simp
    | some cs =>
      by_cases hc : cs.length = tsz P q.2 ∧ q.1 + cs.length ≤ vs.length
      · simp only [if_pos hc, Option.some.injEq, exists_eq_left']
        exact propext ⟨fun h => ⟨hc, h⟩, fun h => h.2⟩
      · simp only [if_neg hc, Option.some.injEq, exists_eq_left']
        refine propext ⟨?_, ?_⟩
        · rintro ⟨_, h, _⟩; cases h
        · intro h; exact absurd h.1 hc
theorem o_build {pos : Nat} {dst : Option Tmp} {t : TypeId} {parts : List (Nat × Operand)} : opX P pos dst (.build t parts.toArray) σ K = stX' (ti P t) fun fs => andX ((fs.all fun q => decide (0 < tsz P q.2)) = true ∧ 0 < (tz P t).length) (bpX P fs ((tz P t).map zAV) (pvs σ parts) fun v => K (σ.put dst v)) := by
  rw [ev_eq (p := fun v => stX' (ti P t) fun fs => andX ((fs.all fun q => decide (0 < tsz P q.2)) = true ∧ 0 < (tz P t).length) (bpX P fs ((tz P t).map zAV) (pvs σ parts) fun u => v = u)) (fun _ => by simp only [aop]) (fun r => by
    simp only [Ev, stX', andX, bpX, pvs_map]
    generalize ti P t = q
    cases q with
    | st fs =>
      refine propext ⟨?_, ?_⟩
      · rintro ⟨h1, h2, vs, h3, rfl⟩; exact ⟨_, ⟨⟨h1, h2⟩, vs, h3, rfl⟩, rfl⟩
      · rintro ⟨v, ⟨⟨h1, h2⟩, vs, h3, rfl⟩, rfl⟩; exact ⟨h1, h2, vs, h3, rfl⟩
    | _ => simp)]
  unfold stX' andX bpX
  generalize ti P t = q
  cases q with
  | st fs =>
    refine propext ⟨?_, ?_⟩
    · rintro ⟨v, ⟨h1, vs, h3, rfl⟩, hk⟩; exact ⟨h1, vs, h3, hk⟩
    · rintro ⟨h1, vs, h3, hk⟩; exact ⟨_, ⟨h1, vs, h3, rfl⟩, hk⟩
  | _ => simp
attribute [go_sem] zD zDs
def mkX (P : Program) (pos : Nat) (e : TypeId) (n m : AV) (dst : Option Tmp) (σ : St) (K : St → Prop) : Prop := match n, m with
  | .int .i64 n, .int .i64 m => andX (n = m) (andX (0 ≤ n ∧ n.toNat * P.bytesOf e ≤ 281474976710656 ∧ n ≤ 4611686018427387904) (andX (0 < tsz P e ∧ (tz P e).length = tsz P e) (optX (zDs (tz P e)) fun z => andX (look σ.t (pos * 16) = none) (rowX (List.replicate n.toNat z) fun rows => K ((σ.put dst (.own (pos * 16))).setT (pos * 16) ⟨rows, some (tsz P e), 0⟩)))))
  | _, _ => False
@[go_sem] theorem mkX_int {pos : Nat} {e : TypeId} {n m : Int} {dst : Option Tmp} : mkX P pos e (.int .i64 n) (.int .i64 m) dst σ K = andX (n = m) (andX (0 ≤ n ∧ n.toNat * P.bytesOf e ≤ 281474976710656 ∧ n ≤ 4611686018427387904) (andX (0 < tsz P e ∧ (tz P e).length = tsz P e) (optX (zDs (tz P e)) fun z => andX (look σ.t (pos * 16) = none) (rowX (List.replicate n.toNat z) fun rows => K ((σ.put dst (.own (pos * 16))).setT (pos * 16) ⟨rows, some (tsz P e), 0⟩))))) := rfl
theorem add_tok {dst : Option Tmp} {v : AV} {n : Nat} {tk : Tok} : σ.add dst ⟨v, [(n, tk)], []⟩ = (σ.put dst v).setT n tk := by cases dst <;> rfl
theorem o_makeSlice {pos : Nat} {dst : Option Tmp} {t : TypeId} {l c : Operand} : opX P pos dst (.makeSlice t l c) σ K = slX (ti P t) fun e => mkX P pos e (σ.e l) (σ.e c) dst σ K := by
  rw [ev_add (fun _ => by simp only [aop])]
  simp only [Ev, slX, mkX]
  generalize ti P t = q
  cases q with
  | sl e =>
    generalize σ.e l = u
    generalize σ.e c = v
    split
    · rename_i el n m h1
      cases h1
      simp only [MakeS, andX, optX, rowX_eq]
      refine propext ⟨?_, ?_⟩
      · rintro ⟨r, ⟨k1, k2, k3, k4, k5, k6, z, k7, rfl⟩, k8, -, k9⟩
        exact ⟨k1, ⟨k2, k3, k4⟩, ⟨k5, k6⟩, z, k7, k8.1, by rw [← add_tok]; exact k9⟩
      · rintro ⟨k1, ⟨k2, k3, k4⟩, ⟨k5, k6⟩, z, k7, k8, k9⟩
        exact ⟨⟨_, [(pos * 16, ⟨_, some (tsz P e), 0⟩)], []⟩, ⟨k1, k2, k3, k4, k5, k6, z, k7, rfl⟩, ⟨k8, trivial⟩, trivial, by rw [add_tok]; exact k9⟩
    · rename_i hno
      have : ∀ p : Prop, (∃ r : Res, False ∧ p) = False := fun p => by simp
      simp only [false_and, exists_false]
      refine propext ⟨False.elim, fun h => ?_⟩
      split at h
      · exact hno e _ _ rfl rfl rfl
      · exact h
  | _ => simp

/-! Calls. -/
def callX (P : Program) (L : Bool) (pos : Nat) (f : FuncId) (args : List AV) (as : Option (List AV)) (dst : Option Tmp) (σ : St) (K : St → Prop) (_ : Wrap L) : Prop :=
  (∃ bs rv, as = some bs ∧ AC P f bs rv ∧ freshT σ (conv (pos * 16) rv).2 ∧ K (σ.add dst ⟨(conv (pos * 16) rv).1, (conv (pos * 16) rv).2, []⟩)) ∨
  (L = true ∧ CallG P f args σ fun v σ' => K (σ'.put dst v))
def clX (P : Program) (L : Bool) (pos : Nat) (g : AV) (args : List AV) (dst : Option Tmp) (σ : St) (K : St → Prop) (w : Wrap L) : Prop := match g with
  | .fn f caps => callX P L pos f (args ++ caps) (cls σ.T σ.B (args ++ caps)) dst σ K w
  | _ => False
@[go_sem] theorem clX_fn {L : Bool} {wL : Wrap L} {pos : Nat} {f : FuncId} {caps args : List AV} {dst : Option Tmp} : clX P L pos (.fn f caps) args dst σ K wL = valX (args ++ caps) fun vs => valX (cls σ.T σ.B vs) fun r => callX P L pos f vs r dst σ K wL := rfl
theorem o_call {L : Bool} {wL : Wrap L} {pos : Nat} {dst : Option Tmp} {g : Operand} {args : List Operand} {ts : Array TypeId} : opL P L pos dst (.call ⟨.value g, args.toArray, ts⟩) σ K wL = clX P L pos (σ.e g) (evs σ args) dst σ K wL := by
  have h1 : opX P pos dst (.call ⟨.value g, args.toArray, ts⟩) σ K = match σ.e g with
      | .fn f caps => ∃ bs rv, cls σ.T σ.B (evs σ args ++ caps) = some bs ∧ AC P f bs rv ∧ freshT σ (conv (pos * 16) rv).2 ∧ K (σ.add dst ⟨(conv (pos * 16) rv).1, (conv (pos * 16) rv).2, []⟩)
      | _ => False := by
    rw [ev_add (fun _ => by simp only [aop])]
    simp only [Ev, CallA, evs_map]
    generalize σ.e g = v
    split
    · refine propext ⟨?_, ?_⟩
      · rintro ⟨r, h1, h2, -, h4⟩
        split at h1
        · rename_i as has
          obtain ⟨rv, h5, rfl⟩ := h1
          exact ⟨as, rv, has, h5, h2, h4⟩
        · exact h1.elim
      · rintro ⟨bs, rv, h1, h5, h2, h4⟩
        exact ⟨⟨(conv (pos * 16) rv).1, (conv (pos * 16) rv).2, []⟩, by rw [h1]; exact ⟨rv, h5, rfl⟩, h2, trivial, h4⟩
    · simp
  have h2 : opL P L pos dst (.call ⟨.value g, args.toArray, ts⟩) σ K wL = (opX P pos dst (.call ⟨.value g, args.toArray, ts⟩) σ K ∨ (L = true ∧ CallO P ⟨dst, .call ⟨.value g, args.toArray, ts⟩, 0, "", #[], none⟩ σ K)) := rfl
  rw [h2, h1]
  unfold clX callX CallO
  simp only [evs_map]
  generalize σ.e g = v
  cases v <;> simp
attribute [go_sem] cl cls toD toDs toA toAs pureA pureAs Option.map_some Option.map_none
/-- A call by its contract: the arguments are only read. -/
theorem call_ac {pos : Nat} {f : FuncId} {args bs : List AV} {dst : Option Tmp} {rv : RV} (h : AC P f bs rv) (hf : freshT σ (conv (pos * 16) rv).2) (hk : K (σ.add dst ⟨(conv (pos * 16) rv).1, (conv (pos * 16) rv).2, []⟩)) {L : Bool} {wL : Wrap L} : callX P L pos f args (some bs) dst σ K wL :=
  .inl ⟨bs, rv, rfl, h, hf, hk⟩
@[go_sem] theorem freshT_nil : freshT σ [] = True := rfl
@[go_sem] theorem freshT_cons {n : Nat} {tk : Tok} {l : List (Nat × Tok)} : freshT σ ((n, tk) :: l) = (look σ.t n = none ∧ freshT σ l) := rfl
attribute [go_sem] conv convs addT addB
@[go_sem] theorem add_some {s t b} {d : Tmp} {r : Res} : St.add ⟨s, t, b⟩ (some d) r = ⟨(d, r.v) :: s, addT t r.t, addB b r.b⟩ := rfl
@[go_sem] theorem add_none {s t b} {r : Res} : St.add ⟨s, t, b⟩ none r = ⟨s, addT t r.t, addB b r.b⟩ := rfl

/-! Writes. -/
@[go_sem] theorem emb_nil {K : List D → St → Prop} : EmbK [] σ K = K [] σ := by rw [EmbK]
@[go_sem] theorem emb_int {k : IntKind} {n : Int} {vs : List AV} {K : List D → St → Prop} : EmbK (.int k n :: vs) σ K = EmbK vs σ fun ds σ' => K (.int k n :: ds) σ' := by rw [EmbK]
@[go_sem] theorem emb_bool {b : Bool} {vs : List AV} {K : List D → St → Prop} : EmbK (.bool b :: vs) σ K = EmbK vs σ fun ds σ' => K (.bool b :: ds) σ' := by rw [EmbK]
@[go_sem] theorem emb_str {s : ByteArray} {vs : List AV} {K : List D → St → Prop} : EmbK (.str s :: vs) σ K = EmbK vs σ fun ds σ' => K (.str s :: ds) σ' := by rw [EmbK]
@[go_sem] theorem emb_nils {vs : List AV} {K : List D → St → Prop} : EmbK (.nils :: vs) σ K = EmbK vs σ fun ds σ' => K (.sl [] :: ds) σ' := by rw [EmbK]
@[go_sem] theorem emb_bsl {b n sz : Nat} {vs : List AV} {K : List D → St → Prop} : EmbK (.bsl b n sz :: vs) σ K = andX (n = 0) (EmbK vs σ fun ds σ' => K (.sl [] :: ds) σ') := by rw [EmbK]; rfl
@[go_sem] theorem emb_own {t : Nat} {vs : List AV} {K : List D → St → Prop} : EmbK (.own t :: vs) σ K = optX (σ.T t) fun tk => EmbK vs (σ.killT t) fun ds σ' => K (.sl tk.rows :: ds) σ' := by rw [EmbK]; rfl
def stX (P : Program) (t : TypeId) (a : AV) (cs : Option (List AV)) (σ : St) (K : St → Prop) : Prop :=
  optX cs fun cs => andX (cs.length = tsz P t ∧ 0 < tsz P t ∧ cs.all AV.one = true) (match a with
    | .box b off => ∃ vs, σ.B b = some vs ∧ off + cs.length ≤ vs.length ∧ K (σ.setB b (splice vs off cs))
    | .elt t' sz i off => EmbK cs σ fun ds σ' => ∃ tk row, σ'.T t' = some tk ∧ tk.rows[i]? = some row ∧ row.length = sz ∧ off + ds.length ≤ sz ∧ K (σ'.setT t' ⟨tk.rows.set i (splice row off ds), tk.sz, if flatAt row off ds = true then tk.gen else tk.gen + 1⟩)
    | _ => False)
theorem o_store {pos : Nat} {dst : Option Tmp} {t : TypeId} {a x : Operand} : opX P pos dst (.store t a x) σ K = stX P t (σ.e a) (cellsOf (σ.e x)) σ fun σ' => K (σ'.put dst .any) := by
  unfold opX
  simp only [aop, StoreK, stX]
  split
  · rename_i cs h
    rw [h, optX_some]
    unfold andX
    refine propext ⟨?_, ?_⟩
    · rintro ⟨h1, h2, h3, h4⟩; exact ⟨⟨h1, h2, h3⟩, h4⟩
    · rintro ⟨⟨h1, h2, h3⟩, h4⟩; exact ⟨h1, h2, h3, h4⟩
  · rename_i h
    rw [h, optX_none]
@[go_sem] theorem stX_box {t : TypeId} {b off : Nat} {cs : List AV} : stX P t (.box b off) (some cs) σ K = andX (cs.length = tsz P t ∧ 0 < tsz P t ∧ cs.all AV.one = true) (optX (σ.B b) fun vs => andX (off + cs.length ≤ vs.length) (valX (splice vs off cs) fun vs' => K (σ.setB b vs'))) := by
  rw [stX, optX_some]; rfl
@[go_sem] theorem stX_elt {t : TypeId} {t' sz i off : Nat} {cs : List AV} : stX P t (.elt t' sz i off) (some cs) σ K = andX (cs.length = tsz P t ∧ 0 < tsz P t ∧ cs.all AV.one = true) (EmbK cs σ fun ds σ' => optX (σ'.T t') fun tk => optX tk.rows[i]? fun row => andX (row.length = sz ∧ off + ds.length ≤ sz) (rowX (tk.rows.set i (splice row off ds)) fun rows => K (σ'.setT t' ⟨rows, tk.sz, if flatAt row off ds = true then tk.gen else tk.gen + 1⟩))) := by
  rw [stX, optX_some]
  simp only [andX, optX, rowX_eq]
  congr 1
  congr 1
  funext ds σ'
  refine propext ⟨?_, ?_⟩
  · rintro ⟨tk, row, h1, h2, h3, h4, h5⟩; exact ⟨tk, h1, row, h2, ⟨h3, h4⟩, h5⟩
  · rintro ⟨tk, h1, row, h2, ⟨h3, h4⟩, h5⟩; exact ⟨tk, row, h1, h2, h3, h4, h5⟩

/-! Append. -/
@[go_sem] theorem appX_nils {e : TypeId} {sz : Nat} {K : List (List D) → St → Prop} : AppX e sz .nils σ K = K [] σ := rfl
@[go_sem] theorem appX_bsl {e : TypeId} {sz b n sz' : Nat} {K : List (List D) → St → Prop} : AppX e sz (.bsl b n sz') σ K = andX (n = 0) (K [] σ) := rfl
@[go_sem] theorem appX_own {e : TypeId} {sz t : Nat} {K : List (List D) → St → Prop} : AppX e sz (.own t) σ K = optX (σ.T t) fun tk => andX (tk.sz = some sz) (K tk.rows (σ.killT t)) := rfl
@[go_sem] theorem appY_nils {sz : Nat} {K : List (List D) → St → Prop} : AppY sz .nils σ K = K [] σ := rfl
@[go_sem] theorem appY_bsl {sz b n sz' : Nat} {K : List (List D) → St → Prop} : AppY sz (.bsl b n sz') σ K = optX (σ.B b) fun vs => andX (sz' = sz ∧ vs.length = n * sz ∧ vs.all AV.one = true) (EmbK vs σ fun ds σ' => valX (chunks sz n ds) fun rows => K rows σ') := by
  simp only [AppY, optX, andX, valX]
  refine propext ⟨?_, ?_⟩
  · rintro ⟨vs, h1, h2, h3, h4, h5⟩; exact ⟨vs, h1, ⟨h2, h3, h4⟩, h5⟩
  · rintro ⟨vs, h1, ⟨h2, h3, h4⟩, h5⟩; exact ⟨vs, h1, h2, h3, h4, h5⟩
@[go_sem] theorem appY_ro {sz : Nat} {rows : List (List D)} {K : List (List D) → St → Prop} : AppY sz (.ro rows) σ K = andX (∀ row ∈ rows, row.length = sz ∧ ∀ d ∈ row, d.flat = true) (K rows σ) := rfl
@[go_sem] theorem appY_own {sz t : Nat} {K : List (List D) → St → Prop} : AppY sz (.own t) σ K = optX (σ.T t) fun tk => andX (∀ row ∈ tk.rows, row.length = sz) (K tk.rows (σ.killT t)) := by
  simp only [AppY, optX, andX]
attribute [go_sem] chunks
def apX (P : Program) (pos : Nat) (e : TypeId) (x y : AV) (dst : Option Tmp) (σ : St) (K : St → Prop) : Prop :=
  andX (0 < tsz P e ∧ (tz P e).length = tsz P e) (AppX e (tsz P e) x σ fun rows σ1 => AppY (tsz P e) y σ1 fun rows2 σ2 =>
      andX ((rows.length + rows2.length) * P.bytesOf e ≤ 140737488355328 ∧ rows.length + rows2.length ≤ maxLen) (andX (look σ2.t (pos * 16) = none) (K ((σ2.setT (pos * 16) ⟨rows ++ rows2, some (tsz P e), 0⟩).put dst (.own (pos * 16))))))
theorem o_append {pos : Nat} {dst : Option Tmp} {x y : Operand} {t : TypeId} : opX P pos dst (.call ⟨.builtin .append, List.toArray [x, y], List.toArray [t, t]⟩) σ K = slX (ti P t) fun e => apX P pos e (σ.e x) (σ.e y) dst σ K := by
  unfold opX
  simp only [aop, AppK, slX, true_and]
  generalize ti P t = q
  split
  · rename_i e
    show (0 < tsz P e ∧ (tz P e).length = tsz P e ∧ _) = ((0 < tsz P e ∧ (tz P e).length = tsz P e) ∧ _)
    rw [and_assoc]
    congr 1
    congr 1
    congr 1
    funext rows σ1
    congr 1
    funext rows2 σ2
    show (_ ∧ _ ∧ _ ∧ _) = ((_ ∧ _) ∧ _ ∧ _)
    rw [and_assoc]
  · rename_i h
    cases q with
    | sl e => exact (h e rfl).elim
    | _ => rfl
end
attribute [go_sem ↓] len_str len_ro len_nils len_bsl len_own len_sub bxX_some stX'_st bpX_nil bpX_cons mkX_int clX_fn emb_nil emb_int emb_bool emb_str emb_nils emb_bsl emb_own stX_box stX_elt appX_nils appX_bsl appX_own appY_nils appY_bsl appY_ro appY_own
end Go.Proofs.Ytfbnlkaggggmiaa.Ab
