/-
  The common ground of this seat's proofs: data as a tree ('D'), when a value reads as a datum in a world ('Rep'), when a datum lies in memory of the call's own ('Own', with the list of its blocks), and that both are kept. No program is in sight here.
-/
import Derived.WalkKit
import Derived.WalkSpells
import Derived.WalkLawsBesides
import Derived.Lib.Hide
import Derived.Deep.QuietTactic
import Derived.BigQuiet
namespace Go.Proofs.Ytgigfdghecdlgaa
set_option linter.unusedVariables false
open Go.RowKit

/-- A datum: what one cell holds, read to the bottom. A slice: the cells of an element, and the elements, each the list of its cells. -/
inductive D where
  | int (k : IntKind) (n : Int)
  | bool (b : Bool)
  | str (s : ByteArray)
  | sl (sz : Nat) (xs : List (List D))

mutual
def Rep (w : World) : D → Value → Prop
  | .int k n, v => v = .int k n ∧ (Lit.int k n).wf = true
  | .bool b, v => v = .bool b
  | .str s, v => v = .string s ∧ s.size ≤ maxLen
  | .sl sz xs, v => ∃ a c, v = .slice a xs.length c ∧ xs.length ≤ c ∧ c ≤ maxLen ∧ (xs = [] ∨ ∃ b off, a = some ⟨b, off, none⟩ ∧ RepR w sz b off xs)
def RepR (w : World) (sz b : Nat) : Nat → List (List D) → Prop
  | _, [] => True
  | off, x :: xs => x.length = sz ∧ RepC w b off x ∧ RepR w sz b (off + sz) xs
def RepC (w : World) (b : Nat) : Nat → List D → Prop
  | _, [] => True
  | off, d :: ds => (∃ u, w.cell? ⟨b, off, none⟩ = some u ∧ Rep w d u) ∧ RepC w b (off + 1) ds
end

/-- Every cell that was there holds what it held. -/
def Keeps (w w' : World) : Prop := ∀ a u, w.cell? a = some u → w'.cell? a = some u
theorem Keeps.of_below {w w'} (h : Below w.heap.size w w') : Keeps w w' := fun a u hu => by
  rw [h.cell (World.block_lt_of_cell? w a hu)]; exact hu
theorem bnext {w w1 w2} (h : Below w.heap.size w w1) (k : Below w1.heap.size w1 w2) : Below w.heap.size w w2 := h.trans (k.mono h.size)
theorem bdrew {w} {B} (n : Nat) : Below B w (w.drewN n) := ⟨rfl, rfl, rfl, Nat.le_refl _, fun _ _ => rfl⟩
theorem Keeps.refl (w : World) : Keeps w w := fun _ _ h => h
theorem Keeps.trans {a b c} (h : Keeps a b) (k : Keeps b c) : Keeps a c := fun x u hu => k x u (h x u hu)

mutual
theorem Rep.keep {w w'} (hk : Keeps w w') : ∀ (d : D) (v : Value), Rep w d v → Rep w' d v
  | .int _ _, _, h => by simpa [Rep] using h
  | .bool _, _, h => by simpa [Rep] using h
  | .str _, _, h => by simpa [Rep] using h
  | .sl sz xs, v, h => by
    simp only [Rep] at h ⊢
    obtain ⟨a, c, hv, h1, h2, h3⟩ := h
    refine ⟨a, c, hv, h1, h2, ?_⟩
    rcases h3 with h3 | ⟨b, off, ha, hr⟩
    · exact .inl h3
    · exact .inr ⟨b, off, ha, RepR.keep hk sz b off xs hr⟩
theorem RepR.keep {w w'} (hk : Keeps w w') (sz b : Nat) : ∀ (off : Nat) (xs : List (List D)), RepR w sz b off xs → RepR w' sz b off xs
  | _, [], _ => by simp [RepR]
  | off, x :: xs, h => by
    simp only [RepR] at h ⊢
    exact ⟨h.1, RepC.keep hk b off x h.2.1, RepR.keep hk sz b (off + sz) xs h.2.2⟩
theorem RepC.keep {w w'} (hk : Keeps w w') (b : Nat) : ∀ (off : Nat) (ds : List D), RepC w b off ds → RepC w' b off ds
  | _, [], _ => by simp [RepC]
  | off, d :: ds, h => by
    simp only [RepC] at h ⊢
    obtain ⟨⟨u, hu, hr⟩, h2⟩ := h
    exact ⟨⟨u, hk _ _ hu, Rep.keep hk d u hr⟩, RepC.keep hk b (off + 1) ds h2⟩
end

theorem Rep.kept {w w'} {d} {v} (h : Rep w d v) (hk : Keeps w w') : Rep w' d v := Rep.keep hk d v h
theorem Rep.below {w w'} {d} {v} (h : Rep w d v) (hk : Below w.heap.size w w') : Rep w' d v := Rep.keep (Keeps.of_below hk) d v h

/-- A row by its places. -/
theorem RepR.at {w} {sz b} : ∀ {off} {xs}, RepR w sz b off xs → ∀ i (h : i < xs.length), xs[i].length = sz ∧ RepC w b (off + i * sz) xs[i]
  | _, [], _, i, h => by simp at h
  | off, x :: xs, hr, 0, _ => by simp only [RepR] at hr; simpa using ⟨hr.1, hr.2.1⟩
  | off, x :: xs, hr, i + 1, h => by
    simp only [RepR] at hr
    have := RepR.at hr.2.2 i (by simpa using h)
    simp only [List.getElem_cons_succ]
    rw [show off + (i + 1) * sz = off + sz + i * sz from by rw [Nat.add_mul]; omega]
    exact this

theorem RepR.mk {w} {sz b} : ∀ {off} {xs}, (∀ i (h : i < xs.length), xs[i].length = sz ∧ RepC w b (off + i * sz) xs[i]) → RepR w sz b off xs
  | _, [], _ => by simp [RepR]
  | off, x :: xs, h => by
    simp only [RepR]
    have h0 := h 0 (by simp)
    refine ⟨by simpa using h0.1, by simpa using h0.2, RepR.mk fun i hi => ?_⟩
    have := h (i + 1) (by simpa using hi)
    simp only [List.getElem_cons_succ] at this
    rw [show off + (i + 1) * sz = off + sz + i * sz from by rw [Nat.add_mul]; omega] at this
    exact this

/-- A struct, or a row's element, as values: each reads as its datum. -/
def Reps (w : World) : List D → List Value → Prop
  | [], [] => True
  | d :: ds, v :: vs => Rep w d v ∧ Reps w ds vs
  | _, _ => False
theorem Reps.keep {w w'} (hk : Keeps w w') : ∀ {ds} {vs}, Reps w ds vs → Reps w' ds vs
  | [], [], _ => trivial
  | d :: _, v :: _, h => ⟨Rep.keep hk d v h.1, Reps.keep hk h.2⟩
  | [], _ :: _, h => h.elim
  | _ :: _, [], h => h.elim

/-- Slices of one kind of integer. -/
def ints (k : IntKind) (zs : List Int) : D := .sl 1 (zs.map fun z => [.int k z])
theorem Rep.ints_open {w} {k} {zs} {v} (h : Rep w (ints k zs) v) :
    ∃ a n c, v = .slice a n c ∧ n ≤ 9223372036854775807 ∧ Hid (n = zs.length) ∧ Hid (n ≤ c ∧ c ≤ maxLen) ∧
      Hid (∀ i, i < n → ∃ b off, a = some ⟨b, off, none⟩ ∧ ∀ j, j < n → (Lit.int k (zs.getD j 0)).wf = true ∧ w.cell? ⟨b, off + j, none⟩ = some (.int k (zs.getD j 0))) := by
  simp only [ints, Rep, List.length_map] at h
  obtain ⟨a, c, hv, h1, h2, h3⟩ := h
  refine ⟨a, zs.length, c, hv, by unfold maxLen at h2; omega, Lib.hid rfl, Lib.hid ⟨h1, h2⟩, Lib.hid fun i hi => ?_⟩
  rcases h3 with h3 | ⟨b, off, ha, hr⟩
  · have : zs = [] := by simpa using h3
    subst this; simp at hi
  · refine ⟨b, off, ha, fun j hj => ?_⟩
    have := (hr.at j (by simpa using hj)).2
    simp only [List.getElem_map, RepC, Rep, Nat.mul_one] at this
    obtain ⟨⟨u, hu, rfl, hw⟩, _⟩ := this
    simp only [List.getD_eq_getElem?_getD, List.getElem?_eq_getElem hj, Option.getD_some]
    exact ⟨hw, hu⟩

/-! ### A block of the call's own -/

/-- Block g holds these cells, and may be written. -/
def Blk (w : World) (g : Nat) (e : TypeId) (cs : List Value) : Prop := w.heap[g]? = some (.cells cs.toArray e (0, 0))
theorem Blk.lt {w} {g} {e} {cs} (h : Blk w g e cs) : g < w.heap.size := lt_of_block h
theorem Blk.cell {w} {g} {e} {cs} (h : Blk w g e cs) (i : Nat) : w.cell? ⟨g, i, none⟩ = cs[i]? := by
  unfold Blk at h
  simp [World.cell?, h]
theorem Blk.free {w} {g} {e} {cs} (h : Blk w g e cs) (i : Nat) : w.frozen? ⟨g, i, none⟩ = false := by
  unfold Blk at h
  simp [World.frozen?, h]
theorem Blk.set {w} {g} {e} {cs} (h : Blk w g e cs) (i : Nat) (v : Value) : Blk (w.setCell ⟨g, i, none⟩ v) g e (cs.set i v) := by
  have hlt := h.lt
  unfold Blk at h ⊢
  have h' : w.heap[g] = .cells cs.toArray e (0, 0) := by simpa [Array.getElem?_eq_getElem hlt] using h
  show (w.heap.modify g _)[g]? = _
  rw [Array.getElem?_eq_getElem (by simpa using hlt), Array.getElem_modify_self, h']
  simp
theorem Blk.other {w} {g} {e} {cs} (h : Blk w g e cs) {a} (ha : a.block ≠ g) (v : Value) : Blk (w.setCell a v) g e cs := by
  unfold Blk at h ⊢
  rw [Below.heap_setCell _ _ _ _ (Ne.symm ha)]; exact h
theorem Blk.alloc {w} {g} {e} {cs} (h : Blk w g e cs) (o : Obj) : Blk (w.alloc o) g e cs := by
  have := h.lt
  unfold Blk at h ⊢
  rw [Below.heap_alloc _ _ _ this]; exact h
theorem Blk.new (w : World) (e : TypeId) (cs : List Value) : Blk (w.alloc (.cells cs.toArray e)) w.heap.size e cs := heap_alloc_new w _
theorem Blk.below {w w'} {g} {e} {cs} (h : Blk w g e cs) {B} (hb : Below B w w') (hg : g < B) : Blk w' g e cs := by
  unfold Blk at h ⊢
  rw [hb.block g hg]; exact h
theorem Blk.grown {w w'} {g} {e} {cs} (h : Blk w g e cs) {row} (hb : w.grownBy w' row) (hg : some g ≠ row) : Blk w' g e cs := by
  have hlt := h.lt
  unfold Blk at h ⊢
  rw [hb.block g hlt hg]; exact h
theorem Blk.drewN {w} {g} {e} {cs} (h : Blk w g e cs) (n : Nat) : Blk (w.drewN n) g e cs := h

theorem Blk.of_owns {w} {base} {e} {size} {v} {n} {xs} (h : w.ownsRow base e size v n xs) :
    (v = .slice none 0 0 ∧ n = 0 ∧ xs = []) ∨ ∃ g cap rest, v = .slice (some ⟨g, 0, none⟩) n cap ∧ base ≤ g ∧ Blk w g e (xs ++ rest) ∧ n ≤ cap ∧ cap ≤ maxLen ∧ xs.length = n * size ∧ (xs ++ rest).length = cap * size := by
  obtain ⟨h1, h2⟩ := h
  rcases h2 with ⟨rfl, rfl⟩ | ⟨g, cap, cur, rfl, hg, hh, hn, hc, hs, ht⟩
  · exact .inl ⟨rfl, rfl, List.eq_nil_of_length_eq_zero (by simpa using h1)⟩
  · refine .inr ⟨g, cap, cur.toList.drop (n * size), rfl, hg, ?_, hn, hc, h1, ?_⟩
    · unfold Blk; rw [← ht, List.take_append_drop]; exact hh
    · rw [← ht, List.take_append_drop, Array.length_toList, hs]

/-- A slice that the call made lies over block g, its first n elements are the cells xs. -/
theorem owns_of_blk {w} {g} {e} {xs rest} (h : Blk w g e (xs ++ rest)) {base} (hb : base ≤ g) {size n cap} (hn : n ≤ cap) (hc : cap ≤ maxLen) (h1 : xs.length = n * size) (h2 : (xs ++ rest).length = cap * size) :
    w.ownsRow base e size (.slice (some ⟨g, 0, none⟩) n cap) n xs := by
  refine ⟨h1, .inr ⟨g, cap, (xs ++ rest).toArray, rfl, hb, h, hn, hc, by simpa using h2, ?_⟩⟩
  rw [← h1]; simp

/-- The cells that a make lays. -/
def zeroRow (z : Value) (m : Nat) : List Value := (madeCells z.cells m).toList
theorem zeroRow_length (z : Value) (m : Nat) : (zeroRow z m).length = m := by simp [zeroRow, size_madeCells]
theorem make_row {P} {t e} {z} {size bytes} (ht : P.underlying t = some (.slice e)) (hinfo : (P.info? e).map (fun i => (i.zero, i.size, i.bytes)) = some (some z, size, bytes))
    (n : Nat) (hb : bytes * n ≤ 281474976710656) (h63 : n ≤ 9223372036854775807) (w : World) :
    (Instr.makeSlice t (.int .i64 (n : Int)) (.int .i64 (n : Int))).run P w = .ok (.slice (some ⟨w.heap.size, 0, none⟩) n n) (w.alloc (.cells (zeroRow z (n * size)).toArray e)) := by
  obtain ⟨i, hi, hz, hs, hby⟩ := info_parts hinfo
  subst hs hby
  have hb' : (i.bytes : Int) * (n : Int) ≤ 281474976710656 := by
    have h : ((i.bytes * n : Nat) : Int) ≤ 281474976710656 := by omega
    rwa [Int.natCast_mul] at h
  have hr := run_make (P := P) w t e i z ht hi hz .i64 .i64 n n (by omega) (Int.le_refl _) hb' (by omega)
  simpa [zeroRow] using hr

/-! ### append to a slice of the call's own: which blocks may have turned -/

/-- From v in w to v' in w': v' lies where v lay, or in a new block; no other block has turned. -/
def Grew (w w' : World) (v v' : Value) : Prop := (v'.ownBlock = v.ownBlock ∨ ∃ g, v'.ownBlock = some g ∧ w.heap.size ≤ g) ∧ w.grownBy w' v.ownBlock
theorem Grew.refl (w : World) (v : Value) : Grew w w v v := ⟨.inl rfl, rfl, rfl, rfl, Nat.le_refl _, fun _ _ _ => rfl⟩
theorem Grew.trans {a b c} {u v x} (h : Grew a b u v) (k : Grew b c v x) : Grew a c u x := by
  obtain ⟨h1, hg⟩ := h
  obtain ⟨k1, kg⟩ := k
  have hs := hg.size
  have ks := kg.size
  refine ⟨?_, kg.os.trans hg.os, kg.tape.trans hg.tape, kg.output.trans hg.output, Nat.le_trans hs ks, fun i hi hne => ?_⟩
  · rcases k1 with k1 | ⟨g, kg1, kg2⟩
    · rcases h1 with h1 | ⟨g, hg1, hg2⟩
      · exact .inl (k1.trans h1)
      · exact .inr ⟨g, k1.trans hg1, hg2⟩
    · exact .inr ⟨g, kg1, by omega⟩
  · rw [kg.block i (by omega) ?_, hg.block i hi hne]
    rcases h1 with h1 | ⟨g, hg1, hg2⟩
    · rw [h1]; exact hne
    · rw [hg1]; intro e; simp only [Option.some.injEq] at e; omega
theorem Grew.pre {a b c} {v x} (h : Below a.heap.size a b) (k : Grew b c v x) : Grew a c v x := by
  obtain ⟨k1, kg⟩ := k
  have hs := h.size
  refine ⟨?_, kg.os.trans h.os, kg.tape.trans h.tape, kg.output.trans h.output, Nat.le_trans hs kg.size, fun i hi hne => ?_⟩
  · rcases k1 with k1 | ⟨g, k1, k2⟩
    · exact .inl k1
    · exact .inr ⟨g, k1, by omega⟩
  · rw [kg.block i (by omega) hne, h.block i hi]
theorem Grew.alloc {a b} {u v} (h : Grew a b u v) (o : Obj) : Grew a (b.alloc o) u v := by
  obtain ⟨h1, hg⟩ := h
  exact ⟨h1, hg.os, hg.tape, hg.output, by simp only [World.size_alloc]; have := hg.size; omega, fun i hi hne => by rw [Below.heap_alloc _ _ _ (by have := hg.size; omega)]; exact hg.block i hi hne⟩
/-- What was there and is not v's own block has not turned. -/
theorem Grew.below {w w'} {v v'} (h : Grew w w' v v') {B} (hB : B ≤ w.heap.size) (hv : ∀ g, v.ownBlock = some g → B ≤ g) : Below B w w' :=
  ⟨h.2.os, h.2.tape, h.2.output, h.2.size, fun i hi => h.2.block i (by omega) (fun e => by have := hv i e.symm; omega)⟩

section
variable {P : Program} {w : World}
theorem run_append_grew (t ty e : TypeId) (z : Value) (size bytes : Nat) (ht : P.underlying t = some (.slice e)) (hinfo : (P.info? e).map (fun i => (i.zero, i.size, i.bytes)) = some (some z, size, bytes)) (hzs : z.cells.size = size) (hsz : 0 < size)
    (v : Value) (n : Nat) (xs : List Value) (hown : w.ownsRow 0 e size v n xs)
    (a : Addr) (m c : Nat) (news : List Value) (hl : news.length = m * size) (hnews : ∀ j u, news[j]? = some u → w.cell? (a.add j) = some u) (h1 : ∀ u ∈ news, u.oneCell' = true)
    (h63 : n + m ≤ maxLen) (hbytes : (n + m) * bytes ≤ 140737488355328) :
    ∃ v' w', (Builtin.append_ #[t, t] ty #[v, .slice (some a) m c]).run P w = .ok v' w' ∧ w'.ownsRow 0 e size v' (n + m) (xs ++ news) ∧ Grew w w' v v' := by
  obtain ⟨i, hi, hz, hs, hby⟩ := info_parts hinfo
  rcases hown.2 with ⟨rfl, rfl⟩ | ⟨g, cap, cur, rfl, -, hg, hnc, hcm, hcs, htake⟩
  · have h0 : w.ownsRow w.heap.size e size (.slice none 0 0) 0 xs := ⟨hown.1, .inl ⟨rfl, rfl⟩⟩
    obtain ⟨v', w', hr, ho, hgr, -⟩ := run_append_own (P := P) w w.heap.size t ty e i z size bytes ht hi hz hs hby hzs hsz _ 0 xs h0 a m c news hl hnews h1 h63 hbytes (Nat.le_refl _)
    refine ⟨v', w', hr, ⟨ho.1, ?_⟩, ?_, hgr⟩
    · rcases ho.2 with h | ⟨g, cap, cur, h1, -, h3⟩
      · exact .inl h
      · exact .inr ⟨g, cap, cur, h1, Nat.zero_le _, h3⟩
    · cases hv : v'.ownBlock with
      | none => exact .inl rfl
      | some g => exact .inr ⟨g, rfl, (ho.lt g hv).1⟩
  · obtain ⟨v', w', hr, ho, hgr, -⟩ := run_append_own (P := P) w 0 t ty e i z size bytes ht hi hz hs hby hzs hsz _ n xs hown a m c news hl hnews h1 h63 hbytes (Nat.zero_le _)
    refine ⟨v', w', hr, ho, ?_, hgr⟩
    subst hs hby
    by_cases hroom : n + m ≤ cap
    · have hfit : n * i.size + news.length ≤ cur.size := by rw [hl, hcs, ← Nat.add_mul]; exact Nat.mul_le_mul_right _ hroom
      have hr2 := run_append_room (P := P) w t ty e i ht hi g n cap cur hg a m c news hl hnews h1 hroom hfit
      rw [hr] at hr2
      simp only [Result.ok.injEq] at hr2
      rw [hr2.1]
      exact .inl rfl
    · have holds : ∀ j u, xs[j]? = some u → w.cell? ((⟨g, 0, none⟩ : Addr).add j) = some u := hown.cells (g := g) rfl
      have hr2 := run_append_grow (P := P) w t ty e i z ht hi hz ⟨g, 0, none⟩ n cap xs hown.1 holds a m c news hl hnews (by omega) (by unfold maxLen at h63; omega) (growslice_fits (by omega) hbytes)
      rw [hr] at hr2
      simp only [Result.ok.injEq] at hr2
      rw [hr2.1]
      exact .inr ⟨_, rfl, Nat.le_refl _⟩

/-- 'append(v, xs...)', v nil or of the call's own, as a law for the walk. -/
theorem wpList_append_grew {ops} {rest} {o} {a} {Q} (hgd : o.guard = none) (s x : Operand) (t : TypeId)
    (ho : o.op = .call { callee := .builtin .append, args := #[s, x], argTypes := #[t, t] })
    (e : TypeId) (z : Value) (size bytes : Nat) (ht : P.underlying t = some (.slice e)) (hinfo : (P.info? e).map (fun i => (i.zero, i.size, i.bytes)) = some (some z, size, bytes)) (hzs : z.cells.size = size) (hsz : 0 < size)
    (v : Value) (n : Nat) (xs : List Value) (hown : w.ownsRow 0 e size v n xs) (hs : a.eval s = v)
    (ad : Addr) (m c : Nat) (news : List Value) (hx : a.eval x = .slice (some ad) m c) (hl : news.length = m * size) (hnews : ∀ j u, news[j]? = some u → w.cell? (ad.add j) = some u) (h1 : ∀ u ∈ news, u.oneCell' = true)
    (h63 : n + m ≤ maxLen) (hbytes : (n + m) * bytes ≤ 140737488355328)
    (h : ∀ v' w', w'.ownsRow 0 e size v' (n + m) (xs ++ news) → Grew w w' v v' → wpList P ops Q rest (a.put o.dst v') w') : wpList P ops Q (o :: rest) a w := by
  refine wpList_plain hgd fun K hK => ?_
  obtain ⟨v', w', hr, h2, h3⟩ := run_append_grew (P := P) (w := w) t o.type e z size bytes ht hinfo hzs hsz v n xs hown ad m c news hl hnews h1 h63 hbytes
  unfold Oper.wp
  simp [execOp, ho, resolve, invoke, builtin, hs, hx, hr, Result.andThen]
  exact hK _ _ (h v' w' h2 h3)
end

theorem owns_base {w : World} {e : TypeId} {size : Nat} {v : Value} {n : Nat} {xs : List Value} (h : w.ownsRow 0 e size v n xs) {B : Nat} (hb : ∀ g, v.ownBlock = some g → B ≤ g) : w.ownsRow B e size v n xs := by
  refine ⟨h.1, ?_⟩
  rcases h.2 with h2 | ⟨g, cap, cur, rfl, -, h3⟩
  · exact .inl h2
  · exact .inr ⟨g, cap, cur, rfl, hb g rfl, h3⟩
theorem owns_zero {w : World} {B : Nat} {e : TypeId} {size : Nat} {v : Value} {n : Nat} {xs : List Value} (h : w.ownsRow B e size v n xs) : w.ownsRow 0 e size v n xs := by
  refine ⟨h.1, ?_⟩
  rcases h.2 with h2 | ⟨g, cap, cur, rfl, -, h3⟩
  · exact .inl h2
  · exact .inr ⟨g, cap, cur, rfl, Nat.zero_le _, h3⟩
/-- v came of nil: it lies in new memory, and nothing old has turned. -/
theorem Grew.fresh {w w'} {v v'} (h : Grew w w' v v') (hv : v.ownBlock = none) : (∀ g, v'.ownBlock = some g → w.heap.size ≤ g) ∧ Below w.heap.size w w' := by
  refine ⟨fun g hg => ?_, h.below (Nat.le_refl _) (fun g hg => by rw [hv] at hg; cases hg)⟩
  rcases h.1 with h1 | ⟨g', h1, h2⟩
  · rw [h1, hv] at hg; cases hg
  · rw [h1] at hg; simp only [Option.some.injEq] at hg; omega
theorem owns_below {w w'} {B C} {e} {size} {v} {n} {xs} (h : w.ownsRow B e size v n xs) (hb : Below C w w') (hC : w.heap.size ≤ C) : w'.ownsRow B e size v n xs := by
  refine ⟨h.1, ?_⟩
  rcases h.2 with h2 | ⟨g, cap, cur, rfl, hg, hh, h3⟩
  · exact .inl h2
  · exact .inr ⟨g, cap, cur, rfl, hg, by rw [hb.block g (Nat.lt_of_lt_of_le (lt_of_block hh) hC)]; exact hh, h3⟩

/-- v lies in memory newer than w, or is nil: so does what it grew to, and nothing older than w has turned. -/
theorem Grew.newer {w w1 w'} {v v'} (h : Grew w1 w' v v') (hb : Below w.heap.size w w1) (hv : ∀ g, v.ownBlock = some g → w.heap.size ≤ g) : (∀ g, v'.ownBlock = some g → w.heap.size ≤ g) ∧ Below w.heap.size w w' := by
  refine ⟨fun g hg => ?_, hb.trans (h.below hb.size hv)⟩
  rcases h.1 with h1 | ⟨g', h1, h2⟩
  · rw [h1] at hg; exact hv g hg
  · rw [h1] at hg; simp only [Option.some.injEq] at hg; have := hb.size; omega
theorem owns_empty (w : World) (e : TypeId) (size : Nat) : (w.alloc (.cells #[] e)).ownsRow w.heap.size e size (.slice (some ⟨w.heap.size, 0, none⟩) 0 0) 0 [] :=
  World.ownsRow_made w #[] 0 (Nat.le_refl _) (Nat.zero_le _) (by simp)

theorem owns_drew {w : World} {B : Nat} {e : TypeId} {size : Nat} {v : Value} {n : Nat} {xs : List Value} (h : w.ownsRow B e size v n xs) (m : Nat) : (w.drewN m).ownsRow B e size v n xs := h

/-! ### Which blocks may have turned -/

/-- Of what was there, the blocks of the list alone may have turned. -/
structure Only (fp : List Nat) (w w' : World) : Prop where
  os : w'.os = w.os
  tape : w'.tape = w.tape
  output : w'.output = w.output
  size : w.heap.size ≤ w'.heap.size
  block : ∀ k, k < w.heap.size → k ∉ fp → w'.heap[k]? = w.heap[k]?
theorem Only.refl (fp : List Nat) (w : World) : Only fp w w := ⟨rfl, rfl, rfl, Nat.le_refl _, fun _ _ _ => rfl⟩
theorem Only.trans {fp} {a b c} (h : Only fp a b) (k : Only fp b c) : Only fp a c :=
  ⟨k.os.trans h.os, k.tape.trans h.tape, k.output.trans h.output, Nat.le_trans h.size k.size, fun i hi hn => (k.block i (Nat.lt_of_lt_of_le hi h.size) hn).trans (h.block i hi hn)⟩
theorem Only.mono {fp fq} {a b} (h : Only fp a b) (hs : ∀ x ∈ fp, x ∈ fq) : Only fq a b :=
  ⟨h.os, h.tape, h.output, h.size, fun i hi hn => h.block i hi fun hm => hn (hs i hm)⟩
theorem Only.of_below {w w'} (h : Below w.heap.size w w') (fp : List Nat) : Only fp w w' := ⟨h.os, h.tape, h.output, h.size, fun i hi _ => h.block i hi⟩
theorem Only.below {fp} {w w'} (h : Only fp w w') {B} (hB : B ≤ w.heap.size) (hf : ∀ x ∈ fp, B ≤ x) : Below B w w' :=
  ⟨h.os, h.tape, h.output, h.size, fun i hi => h.block i (by omega) fun hm => by have := hf i hm; omega⟩
theorem Only.alloc {fp} {a w} (h : Only fp a w) (o : Obj) : Only fp a (w.alloc o) :=
  h.trans (Only.of_below ((Below.refl _ _).alloc (Nat.le_refl _) o) fp)
theorem Only.drewN {fp} {a w} (h : Only fp a w) (n : Nat) : Only fp a (w.drewN n) := h.trans (Only.of_below (bdrew n) fp)
theorem Only.setCell {fp} {a w} (h : Only fp a w) {p} (hp : p.block ∈ fp) (u : Value) : Only fp a (w.setCell p u) :=
  h.trans ⟨rfl, rfl, rfl, by simp [World.setCell], fun k _ hn => Below.heap_setCell _ _ _ _ (fun e => hn (e ▸ hp))⟩
/-- .. or into a block that is newer than a. -/
theorem Only.setNew {fp} {a w} (h : Only fp a w) {p} (hp : a.heap.size ≤ p.block) (u : Value) : Only fp a (w.setCell p u) :=
  ⟨h.os, h.tape, h.output, by have := h.size; simp [World.setCell]; exact this, fun k hk hn => by rw [Below.heap_setCell _ _ _ _ (by omega)]; exact h.block k hk hn⟩
theorem Only.of_grown {w w'} {row} (h : w.grownBy w' row) : Only row.toList w w' :=
  ⟨h.os, h.tape, h.output, h.size, fun i hi hn => h.block i hi fun e => hn (by rw [← e]; simp)⟩
theorem Blk.only {w w'} {g} {e} {cs} (h : Blk w g e cs) {fp} (ho : Only fp w w') (hg : g ∉ fp) : Blk w' g e cs := by
  have hlt := h.lt
  unfold Blk at h ⊢
  rw [ho.block g hlt hg]; exact h

/-- A part of a slice of integers: from i to j. -/
theorem Rep.ints_sub {w} {k} {zs} {b off n c} (h : Rep w (ints k zs) (.slice (some ⟨b, off, none⟩) n c)) (i j : Nat) (hij : i ≤ j) (hj : j ≤ zs.length) :
    Rep w (ints k ((zs.take j).drop i)) (.slice (some ⟨b, off + i, none⟩) (j - i) (c - i)) := by
  obtain ⟨a', n', c', hv, -, HL, HM, HC⟩ := h.ints_open
  simp only [Value.slice.injEq] at hv
  obtain ⟨rfl, rfl, rfl⟩ := hv
  have hl : ((zs.take j).drop i).length = j - i := by simp; omega
  have hm := HM.out
  have hn := HL.out
  simp only [ints, Rep, List.length_map, hl]
  refine ⟨_, _, rfl, by omega, by omega, .inr ⟨b, off + i, rfl, RepR.mk fun m hmm => ?_⟩⟩
  have hm' : m < j - i := by rw [List.length_map, hl] at hmm; exact hmm
  obtain ⟨b', off', he, hx⟩ := HC.out (i + m) (by omega)
  simp only [Option.some.injEq, Addr.mk.injEq, and_true] at he
  obtain ⟨rfl, rfl⟩ := he
  have h2 := hx (i + m) (by omega)
  have e : zs.getD (i + m) 0 = zs[i + m]'(by omega) := by simp [List.getElem?_eq_getElem (show i + m < zs.length by omega)]
  rw [e] at h2
  simp only [List.getElem_map, List.length_singleton, RepC, Rep, true_and, and_true, List.getElem_drop, List.getElem_take, Nat.mul_one]
  exact ⟨_, by rw [Nat.add_assoc]; exact h2.2, rfl, h2.1⟩

theorem owns_slice {w : World} {B : Nat} {e : TypeId} {size : Nat} {v : Value} {n : Nat} {xs : List Value} (h : w.ownsRow B e size v n xs) : ∃ a c, v = .slice a n c := by
  rcases h.2 with ⟨rfl, rfl⟩ | ⟨g, cap, cur, rfl, -⟩
  · exact ⟨_, _, rfl⟩
  · exact ⟨_, _, rfl⟩

end Go.Proofs.Ytgigfdghecdlgaa
