/-
  Data by their parts: opening and putting together lists of cells; weights; what the laws' helpers come to.
-/
import Derived.Test.YtmcnnjelajgkjaaDoorRows
import Derived.Test.YtmcnnjelajgkjaaDoorOwn
namespace Go.Proofs.YtmcnnjelajgkjaaDoor
set_option linter.unusedVariables false
open Go.RowKit

def bools (bs : List Bool) : D := .sl 1 (bs.map fun b => [.bool b])
def strs (ss : List ByteArray) : D := .sl 1 (ss.map fun s => [.str s])
def intss (k : IntKind) (zss : List (List Int)) : D := .sl 1 (zss.map fun zs => [ints k zs])

theorem Reps.uncons {w : World} {d : D} {ds : List D} {vs : List Value} (h : Reps w (d :: ds) vs) : ∃ v vs', vs = v :: vs' ∧ Rep w d v ∧ Reps w ds vs' := by
  cases vs with
  | nil => exact h.elim
  | cons v vs => exact ⟨v, vs, rfl, h.1, h.2⟩
theorem Reps.unnil {w : World} {vs : List Value} (h : Reps w [] vs) : vs = [] := by
  cases vs with
  | nil => rfl
  | cons v vs => exact h.elim
theorem Reps.unappend {w : World} : ∀ {d1 : List D} {d2 : List D} {vs : List Value}, Reps w (d1 ++ d2) vs → ∃ v1 v2, vs = v1 ++ v2 ∧ Reps w d1 v1 ∧ Reps w d2 v2
  | [], d2, vs, h => ⟨[], vs, rfl, trivial, h⟩
  | d :: d1, d2, vs, h => by
    obtain ⟨v, vs', rfl, hr, h2⟩ := Reps.uncons h
    obtain ⟨v1, v2, rfl, h3, h4⟩ := Reps.unappend h2
    exact ⟨v :: v1, v2, rfl, ⟨hr, h3⟩, h4⟩

theorem len1 {α : Type} {l : List α} (h : l.length = 1) : ∃ a, l = [a] := match l, h with | [a], _ => ⟨a, rfl⟩
theorem len2 {α : Type} {l : List α} (h : l.length = 2) : ∃ a b, l = [a, b] := match l, h with | [a, b], _ => ⟨a, b, rfl⟩
theorem len3 {α : Type} {l : List α} (h : l.length = 3) : ∃ a b c, l = [a, b, c] := match l, h with | [a, b, c], _ => ⟨a, b, c, rfl⟩
theorem len4 {α : Type} {l : List α} (h : l.length = 4) : ∃ a b c d, l = [a, b, c, d] := match l, h with | [a, b, c, d], _ => ⟨a, b, c, d, rfl⟩
theorem len5 {α : Type} {l : List α} (h : l.length = 5) : ∃ a b c d e, l = [a, b, c, d, e] := match l, h with | [a, b, c, d, e], _ => ⟨a, b, c, d, e, rfl⟩
theorem len6 {α : Type} {l : List α} (h : l.length = 6) : ∃ a b c d e f, l = [a, b, c, d, e, f] := match l, h with | [a, b, c, d, e, f], _ => ⟨a, b, c, d, e, f, rfl⟩
theorem len7 {α : Type} {l : List α} (h : l.length = 7) : ∃ a b c d e f g, l = [a, b, c, d, e, f, g] := match l, h with | [a, b, c, d, e, f, g], _ => ⟨a, b, c, d, e, f, g, rfl⟩
theorem len8 {α : Type} {l : List α} (h : l.length = 8) : ∃ a b c d e f g i, l = [a, b, c, d, e, f, g, i] := match l, h with | [a, b, c, d, e, f, g, i], _ => ⟨a, b, c, d, e, f, g, i, rfl⟩
theorem len9 {α : Type} {l : List α} (h : l.length = 9) : ∃ a b c d e f g i j, l = [a, b, c, d, e, f, g, i, j] := match l, h with | [a, b, c, d, e, f, g, i, j], _ => ⟨a, b, c, d, e, f, g, i, j, rfl⟩
theorem len10 {α : Type} {l : List α} (h : l.length = 10) : ∃ a b c d e f g i j k, l = [a, b, c, d, e, f, g, i, j, k] := match l, h with | [a, b, c, d, e, f, g, i, j, k], _ => ⟨a, b, c, d, e, f, g, i, j, k, rfl⟩

/-- Opening a slice: its address, and each element's cells. -/
theorem Rep.sl_open {α : Type} {w : World} {sz : Nat} {f : α → List D} {xs : List α} {v : Value} (h : Rep w (.sl sz (xs.map f)) v) :
    ∃ a n c, v = .slice a n c ∧ n ≤ 9223372036854775807 ∧ Hid (n = xs.length) ∧ Hid (n ≤ c ∧ c ≤ maxLen) ∧
      Hid (∀ i, i < n → ∃ b off, a = some ⟨b, off, none⟩ ∧ ∀ j (hj : j < xs.length), (f xs[j]).length = sz ∧ RepC w b (off + j * sz) (f xs[j])) := by
  simp only [Rep, List.length_map] at h
  obtain ⟨a, c, hv, h1, h2, h3⟩ := h
  refine ⟨a, xs.length, c, hv, by unfold maxLen at h2; omega, Lib.hid rfl, Lib.hid ⟨h1, h2⟩, Lib.hid fun i hi => ?_⟩
  rcases h3 with h3 | ⟨b, off, ha, hr⟩
  · have : xs = [] := by simpa using h3
    subst this; simp at hi
  · refine ⟨b, off, ha, fun j hj => ?_⟩
    have := hr.at j (by simpa using hj)
    simpa using this
theorem RepC.vals {w : World} {b : Nat} : ∀ {off : Nat} {ds : List D}, RepC w b off ds → ∃ vs, Reps w ds vs ∧ ∀ i (h : i < vs.length), w.cell? ⟨b, off + i, none⟩ = some vs[i]
  | _, [], _ => ⟨[], trivial, fun i h => by simp at h⟩
  | off, d :: ds, h => by
    simp only [RepC] at h
    obtain ⟨⟨u, hu, hr⟩, h2⟩ := h
    obtain ⟨vs, h3, h4⟩ := RepC.vals h2
    refine ⟨u :: vs, ⟨hr, h3⟩, fun i hi => ?_⟩
    cases i with
    | zero => simpa using hu
    | succ i =>
      have := h4 i (by simpa using hi)
      simpa [Nat.add_assoc, Nat.add_comm 1 i] using this
theorem Reps.kept {w w' : World} {ds : List D} {vs : List Value} (h : Reps w ds vs) (hk : Below w.heap.size w w') : Reps w' ds vs := h.keep (Keeps.of_below hk)

/-! ### Own, by parts -/
theorem own_int {w : World} {k : IntKind} {n : Int} (h : (Lit.int k n).wf = true) : Own w (.int k n) (.int k n) [] := by simp only [Own]; exact ⟨trivial, h, trivial⟩
theorem own_bool {w : World} {b : Bool} : Own w (.bool b) (.bool b) [] := by simp only [Own]; exact ⟨trivial, trivial⟩
theorem own_str {w : World} {s : ByteArray} (h : s.size ≤ maxLen) : Own w (.str s) (.string s) [] := by simp only [Own]; exact ⟨trivial, h, trivial⟩
theorem OwnC.nil0 (w : World) : OwnC w [] [] [] := ⟨rfl, rfl⟩
theorem OwnC.cons0 {w : World} {v : Value} {d : D} {f1 : List Nat} {vs : List Value} {ds : List D} {f2 : List Nat} (h : Own w d v f1) (k : OwnC w vs ds f2) : OwnC w (v :: vs) (d :: ds) (f1 ++ f2) := by
  simp only [OwnC]; exact ⟨v, vs, f1, f2, rfl, h, k, rfl⟩
theorem OwnC.app0 {w : World} : ∀ {v1 : List Value} {d1 : List D} {f1 : List Nat} {v2 : List Value} {d2 : List D} {f2 : List Nat}, OwnC w v1 d1 f1 → OwnC w v2 d2 f2 → OwnC w (v1 ++ v2) (d1 ++ d2) (f1 ++ f2)
  | _, [], _, v2, d2, f2, h, k => by simp only [OwnC] at h; obtain ⟨rfl, rfl⟩ := h; exact k
  | _, d :: d1, _, v2, d2, f2, h, k => by
    simp only [OwnC] at h
    obtain ⟨v, vs', g1, g2, rfl, ho, hc, rfl⟩ := h
    have := OwnC.cons0 ho (OwnC.app0 hc k)
    simpa using this

/-! ### Weights -/
mutual
def D.wt : D → Nat
  | .str s => s.size
  | .sl _ xs => xs.length + wtr xs
  | .int _ _ => 0
  | .bool _ => 0
def wtr : List (List D) → Nat
  | [] => 0
  | x :: xs => wts x + wtr xs
def wts : List D → Nat
  | [] => 0
  | d :: ds => d.wt + wts ds
end
theorem wts_app : ∀ (a b : List D), wts (a ++ b) = wts a + wts b
  | [], b => by simp [wts]
  | d :: a, b => by simp [wts, wts_app a b, Nat.add_assoc]
theorem wtr_map {α : Type} (f : α → List D) : ∀ xs : List α, wtr (xs.map f) = (xs.map fun x => wts (f x)).sum
  | [] => rfl
  | x :: xs => by simp [wtr, wtr_map f xs]
theorem wt_sl {α : Type} (sz : Nat) (f : α → List D) (xs : List α) : (D.sl sz (xs.map f)).wt = xs.length + (xs.map fun x => wts (f x)).sum := by simp [D.wt, wtr_map]
theorem wt_flat {α : Type} {sz : Nat} {f : α → List D} {xs : List α} (h : ∀ x, wts (f x) = 0) : (D.sl sz (xs.map f)).wt = xs.length := by
  rw [wt_sl]
  have : (xs.map fun x => wts (f x)).sum = 0 := by induction xs with | nil => rfl | cons y ys ih => rw [List.map_cons, List.sum_cons, ih, h]
  omega
theorem wt_ints (k : IntKind) (zs : List Int) : (ints k zs).wt = zs.length := wt_flat fun x => by simp [wts, D.wt]
theorem wt_bools (bs : List Bool) : (bools bs).wt = bs.length := wt_flat fun x => by simp [wts, D.wt]
theorem sum_take_succ {α : Type} (f : α → Nat) {xs : List α} {k : Nat} (h : k < xs.length) : ((xs.take (k + 1)).map f).sum = ((xs.take k).map f).sum + f xs[k] := by
  rw [List.take_succ_eq_append_getElem h]; simp only [List.map_append, List.sum_append, List.map_cons, List.map_nil, List.sum_cons, List.sum_nil, Nat.add_zero]
theorem sum_take_le {α : Type} (f : α → Nat) {xs : List α} {k : Nat} (h : k < xs.length) : ((xs.take k).map f).sum + f xs[k] ≤ (xs.map f).sum := by
  have e : xs = xs.take k ++ xs[k] :: xs.drop (k + 1) := by simp
  have e2 : (xs.map f).sum = ((xs.take k ++ xs[k] :: xs.drop (k + 1)).map f).sum := by rw [← e]
  rw [e2]; simp only [List.map_append, List.sum_append, List.map_cons, List.sum_cons]; omega

/-! ### What the helpers come to -/
theorem alloc_below (w : World) (o : Obj) : Below w.heap.size w (w.alloc o) := (Below.refl _ _).alloc (Nat.le_refl _) o
/-- Measuring: -1 if the purse is too small, else what is left of it. -/
def SzRet (w : World) (left : Int) (n : Nat) (e : Ending) (w' : World) : Prop :=
  ∃ m, e = .returned (.int .i64 m) ∧ ((m = -1 ∧ left < (n : Int)) ∨ (m = left - (n : Int) ∧ (n : Int) ≤ left)) ∧ Below w.heap.size w w'
def SzSl (f : FuncId) (d : D) : Prop := ∀ (v : Value) (left : Int) (w : World), Rep w d v → 0 ≤ left → left ≤ 1048576 →
  Calls Tryd.prog f #[v, .int .i64 left] w (SzRet w left d.wt)
/-- Copying a slice: one in new memory of the call's own. -/
def ToRet (w : World) (d : D) (e : Ending) (w' : World) : Prop :=
  ∃ a n c fp, e = .returned (.slice a n c) ∧ Own w' d (.slice a n c) fp ∧ Fresh w.heap.size fp ∧ Below w.heap.size w w'
def ToSl (f : FuncId) (d : D) : Prop := ∀ (v : Value) (w : World), Rep w d v → d.wt ≤ 1048576 → Calls Tryd.prog f #[v] w (ToRet w d)
/-- Comparing slices that read alike: true. -/
def EqRet (w : World) (e : Ending) (w' : World) : Prop := e = .returned (.bool true) ∧ Below w.heap.size w w'
def EqSl (f : FuncId) (d : D) : Prop := ∀ (v v' : Value) (w : World), Rep w d v → Rep w d v' → Calls Tryd.prog f #[v, v'] w (EqRet w)
/-- Copying a struct. -/
def ToStRet (w : World) (ds : List D) (e : Ending) (w' : World) : Prop :=
  ∃ vs fp, e = .returned (.agg vs.toArray) ∧ OwnC w' vs ds fp ∧ Fresh w.heap.size fp ∧ Below w.heap.size w w'
/-- A row in the middle. -/
theorem mid_get {done mid rest : List Value} {p i : Nat} (hp : done.length = p) {v : Value} (h : mid[i]? = some v) : (done ++ (mid ++ rest))[p + i]? = some v := by
  rw [List.getElem?_append_right (by omega), hp, Nat.add_sub_cancel_left, List.getElem?_append_left (lt_of_get h)]
  exact h
def setRun (cs : List Value) (p : Nat) : List Value → List Value
  | [] => cs
  | v :: vs => setRun (cs.set p v) (p + 1) vs
theorem setRun_mid : ∀ {vs mid done rest : List Value} {p : Nat}, done.length = p → mid.length = vs.length → setRun (done ++ (mid ++ rest)) p vs = done ++ (vs ++ rest)
  | [], mid, done, rest, p, hp, hm => by
    have : mid = [] := List.eq_nil_of_length_eq_zero (by simpa using hm)
    subst this; rfl
  | v :: vs, mid, done, rest, p, hp, hm => by
    match mid, hm with
    | m :: mid, hm =>
      have e : (done ++ (m :: mid ++ rest)).set p v = (done ++ [v]) ++ (mid ++ rest) := by
        rw [List.set_append_right _ _ (by omega), hp, Nat.sub_self]; simp
      unfold setRun
      rw [e, setRun_mid (by simp [hp]) (by simpa using hm)]
      simp
theorem rest_split {done rest : List Value} {k len s : Nat} (hd : done.length = k * s) (ht : (done ++ rest).length = len * s) (hk : k < len) : ∃ mid rest2, rest = mid ++ rest2 ∧ mid.length = s := by
  refine ⟨rest.take s, rest.drop s, (List.take_append_drop _ _).symm, ?_⟩
  rw [List.length_append, hd] at ht
  have : (k + 1) * s ≤ len * s := Nat.mul_le_mul_right _ hk
  rw [Nat.add_mul] at this
  rw [List.length_take]; omega
theorem Fresh.cons {B : Nat} {fp : List Nat} (h : Fresh (B + 1) fp) : Fresh B (B :: fp) := by
  refine ⟨fun g hg => ?_, List.nodup_cons.2 ⟨fun hm => ?_, h.2⟩⟩
  · rcases List.mem_cons.1 hg with rfl | hg
    · exact Nat.le_refl _
    · have := h.1 g hg; omega
  · have := h.1 B hm; omega

theorem Rep.shape {w : World} {sz : Nat} {xs : List (List D)} {v : Value} (h : Rep w (.sl sz xs) v) : ∃ a n c, v = .slice a n c := by
  simp only [Rep] at h
  obtain ⟨a, c, hv, -⟩ := h
  exact ⟨a, _, c, hv⟩

end Go.Proofs.YtmcnnjelajgkjaaDoor
