/-
  The common ground of this seat's proofs: data as a tree ('D'), when a value reads as a datum in a world ('Rep'), when a datum lies in memory of the call's own ('Own', with the list of its blocks), and that both are kept. No program is in sight here.
-/
import Derived.WalkKit
import Derived.WalkSpells
import Derived.WalkLawsBesides
import Derived.Lib.Hide
import Derived.Deep.QuietTactic
import Derived.BigQuiet
namespace Go.Proofs.Ytmcnnjelajgkjaa
open Go.RowKit

/-- A datum: what one cell holds, read to the bottom. A slice: the cells of an element, and the elements, each the list of its cells. -/
inductive D where
  | int (k : IntKind) (n : Int)
  | bool (b : Bool)
  | str (s : ByteArray)
  | sl (sz : Nat) (xs : List (List D))

mutual
def Rep (w : World) : D → Value → Prop
  | .int k n, v => v = .int k n ∧ (Lit.int k n).wf = true
  | .bool b, v => v = .bool b
  | .str s, v => v = .string s ∧ s.size ≤ maxLen
  | .sl sz xs, v => ∃ a c, v = .slice a xs.length c ∧ xs.length ≤ c ∧ c ≤ maxLen ∧ (xs = [] ∨ ∃ b off, a = some ⟨b, off, none⟩ ∧ RepR w sz b off xs)
def RepR (w : World) (sz b : Nat) : Nat → List (List D) → Prop
  | _, [] => True
  | off, x :: xs => x.length = sz ∧ RepC w b off x ∧ RepR w sz b (off + sz) xs
def RepC (w : World) (b : Nat) : Nat → List D → Prop
  | _, [] => True
  | off, d :: ds => (∃ u, w.cell? ⟨b, off, none⟩ = some u ∧ Rep w d u) ∧ RepC w b (off + 1) ds
end

/-- Every cell that was there holds what it held. -/
def Keeps (w w' : World) : Prop := ∀ a u, w.cell? a = some u → w'.cell? a = some u
theorem Keeps.of_below {w w' : World} (h : Below w.heap.size w w') : Keeps w w' := fun a u hu => by
  rw [h.cell (World.block_lt_of_cell? w a hu)]; exact hu
theorem bnext {w w1 w2 : World} (h : Below w.heap.size w w1) (k : Below w1.heap.size w1 w2) : Below w.heap.size w w2 := h.trans (k.mono h.size)
theorem bdrew {w : World} {B : Nat} (n : Nat) : Below B w (w.drewN n) := ⟨rfl, rfl, rfl, Nat.le_refl _, fun _ _ => rfl⟩
theorem Keeps.refl (w : World) : Keeps w w := fun _ _ h => h
theorem Keeps.trans {a b c : World} (h : Keeps a b) (k : Keeps b c) : Keeps a c := fun x u hu => k x u (h x u hu)

mutual
theorem Rep.keep {w w' : World} (hk : Keeps w w') : ∀ (d : D) (v : Value), Rep w d v → Rep w' d v
  | .int _ _, _, h => by simpa [Rep] using h
  | .bool _, _, h => by simpa [Rep] using h
  | .str _, _, h => by simpa [Rep] using h
  | .sl sz xs, v, h => by
    simp only [Rep] at h ⊢
    obtain ⟨a, c, hv, h1, h2, h3⟩ := h
    refine ⟨a, c, hv, h1, h2, ?_⟩
    rcases h3 with h3 | ⟨b, off, ha, hr⟩
    · exact .inl h3
    · exact .inr ⟨b, off, ha, RepR.keep hk sz b off xs hr⟩
theorem RepR.keep {w w' : World} (hk : Keeps w w') (sz b : Nat) : ∀ (off : Nat) (xs : List (List D)), RepR w sz b off xs → RepR w' sz b off xs
  | _, [], _ => by simp [RepR]
  | off, x :: xs, h => by
    simp only [RepR] at h ⊢
    exact ⟨h.1, RepC.keep hk b off x h.2.1, RepR.keep hk sz b (off + sz) xs h.2.2⟩
theorem RepC.keep {w w' : World} (hk : Keeps w w') (b : Nat) : ∀ (off : Nat) (ds : List D), RepC w b off ds → RepC w' b off ds
  | _, [], _ => by simp [RepC]
  | off, d :: ds, h => by
    simp only [RepC] at h ⊢
    obtain ⟨⟨u, hu, hr⟩, h2⟩ := h
    exact ⟨⟨u, hk _ _ hu, Rep.keep hk d u hr⟩, RepC.keep hk b (off + 1) ds h2⟩
end

theorem Rep.kept {w w' : World} {d : D} {v : Value} (h : Rep w d v) (hk : Keeps w w') : Rep w' d v := Rep.keep hk d v h
theorem Rep.below {w w' : World} {d : D} {v : Value} (h : Rep w d v) (hk : Below w.heap.size w w') : Rep w' d v := Rep.keep (Keeps.of_below hk) d v h

/-- A row by its places. -/
theorem RepR.at {w : World} {sz b : Nat} : ∀ {off : Nat} {xs : List (List D)}, RepR w sz b off xs → ∀ i (h : i < xs.length), xs[i].length = sz ∧ RepC w b (off + i * sz) xs[i]
  | _, [], _, i, h => by simp at h
  | off, x :: xs, hr, 0, _ => by simp only [RepR] at hr; simpa using ⟨hr.1, hr.2.1⟩
  | off, x :: xs, hr, i + 1, h => by
    simp only [RepR] at hr
    have := RepR.at hr.2.2 i (by simpa using h)
    simp only [List.getElem_cons_succ]
    rw [show off + (i + 1) * sz = off + sz + i * sz from by rw [Nat.add_mul]; omega]
    exact this

theorem RepR.mk {w : World} {sz b : Nat} : ∀ {off : Nat} {xs : List (List D)}, (∀ i (h : i < xs.length), xs[i].length = sz ∧ RepC w b (off + i * sz) xs[i]) → RepR w sz b off xs
  | _, [], _ => by simp [RepR]
  | off, x :: xs, h => by
    simp only [RepR]
    have h0 := h 0 (by simp)
    refine ⟨by simpa using h0.1, by simpa using h0.2, RepR.mk fun i hi => ?_⟩
    have := h (i + 1) (by simpa using hi)
    simp only [List.getElem_cons_succ] at this
    rw [show off + (i + 1) * sz = off + sz + i * sz from by rw [Nat.add_mul]; omega] at this
    exact this

/-- A struct, or a row's element, as values: each reads as its datum. -/
def Reps (w : World) : List D → List Value → Prop
  | [], [] => True
  | d :: ds, v :: vs => Rep w d v ∧ Reps w ds vs
  | _, _ => False
theorem Reps.keep {w w' : World} (hk : Keeps w w') : ∀ {ds : List D} {vs : List Value}, Reps w ds vs → Reps w' ds vs
  | [], [], _ => trivial
  | d :: _, v :: _, h => ⟨Rep.keep hk d v h.1, Reps.keep hk h.2⟩
  | [], _ :: _, h => h.elim
  | _ :: _, [], h => h.elim

/-- Slices of one kind of integer. -/
def ints (k : IntKind) (zs : List Int) : D := .sl 1 (zs.map fun z => [.int k z])
theorem Rep.ints_open {w : World} {k : IntKind} {zs : List Int} {v : Value} (h : Rep w (ints k zs) v) :
    ∃ a n c, v = .slice a n c ∧ n ≤ 9223372036854775807 ∧ Hid (n = zs.length) ∧ Hid (n ≤ c ∧ c ≤ maxLen) ∧
      Hid (∀ i, i < n → ∃ b off, a = some ⟨b, off, none⟩ ∧ ∀ j, j < n → (Lit.int k (zs.getD j 0)).wf = true ∧ w.cell? ⟨b, off + j, none⟩ = some (.int k (zs.getD j 0))) := by
  simp only [ints, Rep, List.length_map] at h
  obtain ⟨a, c, hv, h1, h2, h3⟩ := h
  refine ⟨a, zs.length, c, hv, by unfold maxLen at h2; omega, Lib.hid rfl, Lib.hid ⟨h1, h2⟩, Lib.hid fun i hi => ?_⟩
  rcases h3 with h3 | ⟨b, off, ha, hr⟩
  · have : zs = [] := by simpa using h3
    subst this; simp at hi
  · refine ⟨b, off, ha, fun j hj => ?_⟩
    have := (hr.at j (by simpa using hj)).2
    simp only [List.getElem_map, RepC, Rep, Nat.mul_one] at this
    obtain ⟨⟨u, hu, rfl, hw⟩, _⟩ := this
    simp only [List.getD_eq_getElem?_getD, List.getElem?_eq_getElem hj, Option.getD_some]
    exact ⟨hw, hu⟩

/-! ### A block of the call's own -/

/-- Block g holds these cells, and may be written. -/
def Blk (w : World) (g : Nat) (e : TypeId) (cs : List Value) : Prop := w.heap[g]? = some (.cells cs.toArray e (0, 0))
theorem Blk.lt {w : World} {g : Nat} {e : TypeId} {cs : List Value} (h : Blk w g e cs) : g < w.heap.size := lt_of_block h
theorem Blk.cell {w : World} {g : Nat} {e : TypeId} {cs : List Value} (h : Blk w g e cs) (i : Nat) : w.cell? ⟨g, i, none⟩ = cs[i]? := by
  unfold Blk at h
  simp [World.cell?, h]
theorem Blk.free {w : World} {g : Nat} {e : TypeId} {cs : List Value} (h : Blk w g e cs) (i : Nat) : w.frozen? ⟨g, i, none⟩ = false := by
  unfold Blk at h
  simp [World.frozen?, h]
theorem Blk.set {w : World} {g : Nat} {e : TypeId} {cs : List Value} (h : Blk w g e cs) (i : Nat) (v : Value) : Blk (w.setCell ⟨g, i, none⟩ v) g e (cs.set i v) := by
  have hlt := h.lt
  unfold Blk at h ⊢
  have h' : w.heap[g] = .cells cs.toArray e (0, 0) := by simpa [Array.getElem?_eq_getElem hlt] using h
  show (w.heap.modify g _)[g]? = _
  rw [Array.getElem?_eq_getElem (by simpa using hlt), Array.getElem_modify_self, h']
  simp
theorem Blk.other {w : World} {g : Nat} {e : TypeId} {cs : List Value} (h : Blk w g e cs) {a : Addr} (ha : a.block ≠ g) (v : Value) : Blk (w.setCell a v) g e cs := by
  unfold Blk at h ⊢
  rw [Below.heap_setCell _ _ _ _ (Ne.symm ha)]; exact h
theorem Blk.alloc {w : World} {g : Nat} {e : TypeId} {cs : List Value} (h : Blk w g e cs) (o : Obj) : Blk (w.alloc o) g e cs := by
  have := h.lt
  unfold Blk at h ⊢
  rw [Below.heap_alloc _ _ _ this]; exact h
theorem Blk.new (w : World) (e : TypeId) (cs : List Value) : Blk (w.alloc (.cells cs.toArray e)) w.heap.size e cs := heap_alloc_new w _
theorem Blk.below {w w' : World} {g : Nat} {e : TypeId} {cs : List Value} (h : Blk w g e cs) {B : Nat} (hb : Below B w w') (hg : g < B) : Blk w' g e cs := by
  unfold Blk at h ⊢
  rw [hb.block g hg]; exact h
theorem Blk.grown {w w' : World} {g : Nat} {e : TypeId} {cs : List Value} (h : Blk w g e cs) {row : Option Nat} (hb : w.grownBy w' row) (hg : some g ≠ row) : Blk w' g e cs := by
  have hlt := h.lt
  unfold Blk at h ⊢
  rw [hb.block g hlt hg]; exact h
theorem Blk.drewN {w : World} {g : Nat} {e : TypeId} {cs : List Value} (h : Blk w g e cs) (n : Nat) : Blk (w.drewN n) g e cs := h

theorem Blk.of_owns {w : World} {base : Nat} {e : TypeId} {size : Nat} {v : Value} {n : Nat} {xs : List Value} (h : w.ownsRow base e size v n xs) :
    (v = .slice none 0 0 ∧ n = 0 ∧ xs = []) ∨ ∃ g cap rest, v = .slice (some ⟨g, 0, none⟩) n cap ∧ base ≤ g ∧ Blk w g e (xs ++ rest) ∧ n ≤ cap ∧ cap ≤ maxLen ∧ xs.length = n * size ∧ (xs ++ rest).length = cap * size := by
  obtain ⟨h1, h2⟩ := h
  rcases h2 with ⟨rfl, rfl⟩ | ⟨g, cap, cur, rfl, hg, hh, hn, hc, hs, ht⟩
  · exact .inl ⟨rfl, rfl, List.eq_nil_of_length_eq_zero (by simpa using h1)⟩
  · refine .inr ⟨g, cap, cur.toList.drop (n * size), rfl, hg, ?_, hn, hc, h1, ?_⟩
    · unfold Blk; rw [← ht, List.take_append_drop]; exact hh
    · rw [← ht, List.take_append_drop, Array.length_toList, hs]

/-- A slice that the call made lies over block g, its first n elements are the cells xs. -/
theorem owns_of_blk {w : World} {g : Nat} {e : TypeId} {xs rest : List Value} (h : Blk w g e (xs ++ rest)) {base : Nat} (hb : base ≤ g) {size n cap : Nat} (hn : n ≤ cap) (hc : cap ≤ maxLen) (h1 : xs.length = n * size) (h2 : (xs ++ rest).length = cap * size) :
    w.ownsRow base e size (.slice (some ⟨g, 0, none⟩) n cap) n xs := by
  refine ⟨h1, .inr ⟨g, cap, (xs ++ rest).toArray, rfl, hb, h, hn, hc, by simpa using h2, ?_⟩⟩
  rw [← h1]; simp

/-- The cells that a make lays. -/
def zeroRow (z : Value) (m : Nat) : List Value := (madeCells z.cells m).toList
theorem zeroRow_length (z : Value) (m : Nat) : (zeroRow z m).length = m := by simp [zeroRow, size_madeCells]
theorem make_row {P : Program} {t e : TypeId} {z : Value} {size bytes : Nat} (ht : P.underlying t = some (.slice e)) (hinfo : (P.info? e).map (fun i => (i.zero, i.size, i.bytes)) = some (some z, size, bytes))
    (n : Nat) (hb : bytes * n ≤ 281474976710656) (h63 : n ≤ 9223372036854775807) (w : World) :
    (Instr.makeSlice t (.int .i64 (n : Int)) (.int .i64 (n : Int))).run P w = .ok (.slice (some ⟨w.heap.size, 0, none⟩) n n) (w.alloc (.cells (zeroRow z (n * size)).toArray e)) := by
  obtain ⟨i, hi, hz, hs, hby⟩ := info_parts hinfo
  subst hs hby
  have hb' : (i.bytes : Int) * (n : Int) ≤ 281474976710656 := by
    have h : ((i.bytes * n : Nat) : Int) ≤ 281474976710656 := by omega
    rwa [Int.natCast_mul] at h
  have hr := run_make (P := P) w t e i z ht hi hz .i64 .i64 n n (by omega) (Int.le_refl _) hb' (by omega)
  simpa [zeroRow] using hr

end Go.Proofs.Ytmcnnjelajgkjaa
