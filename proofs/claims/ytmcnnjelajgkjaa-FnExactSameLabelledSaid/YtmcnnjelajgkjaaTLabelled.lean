/-
  The data 'Labelled' of the laws, and the laws' helpers over it.
-/
import Derived.Test.YtmcnnjelajgkjaaRows
import Derived.Test.YtmcnnjelajgkjaaDat
import Derived.Test.YtmcnnjelajgkjaaTCore
import Derived.Test.YtmcnnjelajgkjaaPrString
namespace Go.Proofs.Ytmcnnjelajgkjaa
set_option linter.unusedVariables false
open Go.RowKit


structure TLabelled where
  fTerm : TCore
  fLabels : List ByteArray
def TLabelled.toD (x : TLabelled) : List D := (x.fTerm).toD ++ ([strs x.fLabels])
theorem TLabelled.toD_eq (x : TLabelled) : x.toD = (x.fTerm).toD ++ ([strs x.fLabels]) := rfl
theorem TLabelled.toD_length (x : TLabelled) : x.toD.length = 5 := by
  rw [TLabelled.toD_eq]; simp [TCore.toD_length]
theorem TLabelled.reps_open {x : TLabelled} {w : World} {vs : List Value} (h : Reps w x.toD vs) :
    ∃ v0 v1 v2 v3 v4, vs = [v0, v1, v2, v3, v4] ∧ Reps w x.fTerm.toD [v0, v1, v2, v3] ∧ Rep w (strs x.fLabels) v4 := by
  rw [TLabelled.toD_eq] at h
  obtain ⟨u0, vs0, rfl, k0, h0⟩ := Reps.unappend h
  obtain ⟨v0, v1, v2, v3, rfl⟩ := len4 (k0.length.symm.trans (TCore.toD_length _))
  obtain ⟨y1, vs1, rfl, k1, h1⟩ := Reps.uncons h0
  obtain rfl := Reps.unnil h1
  exact ⟨v0, v1, v2, v3, y1, rfl, k0, k1⟩

theorem TLabelled.shape {x : TLabelled} {w : World} {vs : List Value} (h : Reps w x.toD vs) : ∃ ex0i0 ex0i1 ex0a2 ex0n2 ex0c2 ex0a3 ex0n3 ex0c3 ea4 en4 ec4, vs = [Value.int .i64 ex0i0, Value.int .i64 ex0i1, Value.slice ex0a2 ex0n2 ex0c2, Value.slice ex0a3 ex0n3 ex0c3, Value.slice ea4 en4 ec4] := by
  obtain ⟨v0, v1, v2, v3, v4, rfl, rTerm, rLabels⟩ := TLabelled.reps_open h
  obtain ⟨qTermi0, qTermi1, qTerma2, qTermn2, qTermc2, qTerma3, qTermn3, qTermc3, heTerm⟩ := TCore.shape rTerm
  simp only [List.cons.injEq, and_true] at heTerm
  obtain ⟨rfl, rfl, rfl, rfl⟩ := heTerm
  obtain ⟨aLabels, nLabels, cLabels, rfl⟩ := Rep.shape rLabels
  exact ⟨_, _, _, _, _, _, _, _, _, _, _, rfl⟩

theorem TLabelled.own_mk {x : TLabelled} {w : World} {v0 v1 v2 v3 v4 : Value} {pTerm pLabels : List Nat}  (oTerm : OwnC w [v0, v1, v2, v3] x.fTerm.toD pTerm) (oLabels : Own w (strs x.fLabels) v4 pLabels) :
    OwnC w [v0, v1, v2, v3, v4] x.toD (pTerm ++ pLabels) := by
  rw [TLabelled.toD_eq]
  have h := (OwnC.app0 oTerm (OwnC.cons0 (oLabels) (OwnC.nil0 w)))
  simpa using h

/-- What measuring comes to. -/
def SzOkLabelled (x : TLabelled) : Prop := ∀ (vs : List Value) (left : Int) (w : World), Reps w x.toD vs → 0 ≤ left → left ≤ 1048576 →
  Calls Try.prog 20 #[.agg vs.toArray, .int .i64 left] w (SzRet w left (wts x.toD))

set_option maxRecDepth 4000 in
set_option maxHeartbeats 1000000 in
theorem szLabelled_any (x : TLabelled) : SzOkLabelled x := by
  intro vs left w h h0 h1
  obtain ⟨v0, v1, v2, v3, v4, rfl, rTerm, rLabels⟩ := TLabelled.reps_open h
  have HT : Hid (wts x.toD = wts x.fTerm.toD + (strs x.fLabels).wt) := by rw [TLabelled.toD_eq]; simp [Hid, wts_app, wts] <;> omega
  have RrTerm := Lib.hid rTerm; clear rTerm
  have RrLabels := Lib.hid rLabels; clear rLabels
  clear h
  have H0 : Below w.heap.size w (w.alloc (.cells #[v0, v1, v2, v3, v4] 41)) := alloc_below w _
  have B0 : Hid (Blk (w.alloc (.cells #[v0, v1, v2, v3, v4] 41)) w.heap.size 41 [v0, v1, v2, v3, v4]) := Blk.new w _ [v0, v1, v2, v3, v4]
  go_enter Try.func20, Try.ntmps20
  go_wp2_with fail
  refine (szCore_any x.fTerm [v0, v1, v2, v3] left _ (RrTerm.out.keep (Keeps.of_below H0)) h0 h1).mono ?_
  rintro e w1 ⟨n0, rfl, hs0, hb1⟩
  have H1 := bnext H0 hb1
  have B1 : Hid (Blk w1 w.heap.size 41 [v0, v1, v2, v3, v4]) := B0.out.below hb1 B0.out.lt
  rcases hs0 with ⟨rfl, q0⟩ | ⟨rfl, q0⟩
  · go_wp2_with fail
    go_ret
    exact ⟨_, rfl, .inl ⟨rfl, by rw [HT.out]; omega⟩, H1⟩
  obtain ⟨m0, e0⟩ : ∃ m, left - ((wts x.fTerm.toD : Nat) : Int) = m := ⟨_, rfl⟩
  have p0 : 0 ≤ m0 := by omega
  have p0' : m0 ≤ 1048576 := by omega
  rw [e0]
  have E0 := Lib.hid e0; clear e0
  have c4 := B1.out.cell 4
  simp only [List.getElem?_cons_zero, List.getElem?_cons_succ] at c4
  go_wp2_with fail
  clear c4
  refine (szStringS_any x.fLabels _ m0 _ (RrLabels.out.below H1) p0 p0').mono ?_
  rintro e w2 ⟨n1, rfl, hs1, hb2⟩
  have H2 := bnext H1 hb2
  have B2 : Hid (Blk w2 w.heap.size 41 [v0, v1, v2, v3, v4]) := B1.out.below hb2 B1.out.lt
  rcases hs1 with ⟨rfl, q1⟩ | ⟨rfl, q1⟩
  · go_wp2_with fail
    go_ret
    exact ⟨_, rfl, .inl ⟨rfl, by rw [HT.out]; have z0 := E0.out; omega⟩, H2⟩
  obtain ⟨m1, e1⟩ : ∃ m, m0 - (((strs x.fLabels).wt : Nat) : Int) = m := ⟨_, rfl⟩
  have p1 : 0 ≤ m1 := by omega
  have p1' : m1 ≤ 1048576 := by omega
  rw [e1]
  have E1 := Lib.hid e1; clear e1
  go_wp2_with fail
  go_ret
  exact ⟨_, rfl, .inr ⟨by rw [HT.out]; have z0 := E0.out; have z1 := E1.out; omega, by rw [HT.out]; have z0 := E0.out; have z1 := E1.out; omega⟩, H2⟩

/-- What copying comes to. -/
def ToOkLabelled (x : TLabelled) : Prop := ∀ (vs : List Value) (w : World), Reps w x.toD vs → wts x.toD ≤ 1048576 → Calls Try.prog 22 #[.agg vs.toArray] w (ToStRet w x.toD)

set_option maxRecDepth 8000 in
set_option maxHeartbeats 2000000 in
theorem toLabelled_any (x : TLabelled) : ToOkLabelled x := by
  intro vs w h hwt
  obtain ⟨v0, v1, v2, v3, v4, rfl, rTerm, rLabels⟩ := TLabelled.reps_open h
  have HW := Lib.hid hwt; clear hwt
  have HT : Hid (wts x.toD = wts x.fTerm.toD + (strs x.fLabels).wt) := by rw [TLabelled.toD_eq]; simp [Hid, wts_app, wts] <;> omega
  have RrTerm := Lib.hid rTerm; clear rTerm
  have RrLabels := Lib.hid rLabels; clear rLabels
  clear h
  go_enter Try.func22, Try.ntmps22
  go_wp2_with fail
  have H0 : Below w.heap.size w (((w.alloc (.cells #[v0, v1, v2, v3, v4] 41)).alloc (.cells #[.int .i64 0, .int .i64 0, .slice none 0 0, .slice none 0 0, .slice none 0 0] 48)).alloc (.cells #[.int .i64 0, .int .i64 0, .slice none 0 0, .slice none 0 0, .slice none 0 0] 48)) := ((alloc_below w _).alloc (by simp) _).alloc (by simp; omega) _
  have BX0 : Hid (Blk (((w.alloc (.cells #[v0, v1, v2, v3, v4] 41)).alloc (.cells #[.int .i64 0, .int .i64 0, .slice none 0 0, .slice none 0 0, .slice none 0 0] 48)).alloc (.cells #[.int .i64 0, .int .i64 0, .slice none 0 0, .slice none 0 0, .slice none 0 0] 48)) w.heap.size 41 [v0, v1, v2, v3, v4]) := ((Blk.new w _ [v0, v1, v2, v3, v4]).alloc _).alloc _
  have BR0 : Hid (Blk (((w.alloc (.cells #[v0, v1, v2, v3, v4] 41)).alloc (.cells #[.int .i64 0, .int .i64 0, .slice none 0 0, .slice none 0 0, .slice none 0 0] 48)).alloc (.cells #[.int .i64 0, .int .i64 0, .slice none 0 0, .slice none 0 0, .slice none 0 0] 48)) (w.heap.size + 1) 48 [.int .i64 0, .int .i64 0, .slice none 0 0, .slice none 0 0, .slice none 0 0]) := by have h := (Blk.new (w.alloc (.cells #[v0, v1, v2, v3, v4] 41)) 48 [.int .i64 0, .int .i64 0, .slice none 0 0, .slice none 0 0, .slice none 0 0]).alloc (.cells #[.int .i64 0, .int .i64 0, .slice none 0 0, .slice none 0 0, .slice none 0 0] 48); simpa [Hid] using h
  have BO0 : Hid (Blk (((w.alloc (.cells #[v0, v1, v2, v3, v4] 41)).alloc (.cells #[.int .i64 0, .int .i64 0, .slice none 0 0, .slice none 0 0, .slice none 0 0] 48)).alloc (.cells #[.int .i64 0, .int .i64 0, .slice none 0 0, .slice none 0 0, .slice none 0 0] 48)) (w.heap.size + 1 + 1) 48 [.int .i64 0, .int .i64 0, .slice none 0 0, .slice none 0 0, .slice none 0 0]) := by have h := Blk.new ((w.alloc (.cells #[v0, v1, v2, v3, v4] 41)).alloc (.cells #[.int .i64 0, .int .i64 0, .slice none 0 0, .slice none 0 0, .slice none 0 0] 48)) 48 [.int .i64 0, .int .i64 0, .slice none 0 0, .slice none 0 0, .slice none 0 0]; simpa [Hid] using h
  have Z0 : Hid (w.heap.size + 3 ≤ ((((w.alloc (.cells #[v0, v1, v2, v3, v4] 41)).alloc (.cells #[.int .i64 0, .int .i64 0, .slice none 0 0, .slice none 0 0, .slice none 0 0] 48)).alloc (.cells #[.int .i64 0, .int .i64 0, .slice none 0 0, .slice none 0 0, .slice none 0 0] 48))).heap.size) := by simp [Hid]
  refine (toCore_any x.fTerm [v0, v1, v2, v3] _ (RrTerm.out.keep (Keeps.of_below H0)) (by have h1 := HW.out; have h2 := HT.out; omega)).mono ?_
  rintro e w1 ⟨us1, pTerm, rfl, ho1, hf1, hb1⟩
  obtain ⟨nTerm0, nTerm1, nTerm2, nTerm3, rfl⟩ := len4 (ho1.length.trans (TCore.toD_length _))
  obtain ⟨k1i0, k1i1, k1a2, k1n2, k1c2, k1a3, k1n3, k1c3, hek1⟩ := TCore.shape ho1.reps
  simp only [List.cons.injEq, and_true] at hek1
  obtain ⟨rfl, rfl, rfl, rfl⟩ := hek1
  have G1 := bnext H0 hb1
  have bx1 := BX0.out.below hb1 BX0.out.lt
  have br1 := BR0.out.below hb1 BR0.out.lt
  have bo1 := BO0.out.below hb1 BO0.out.lt
  have ny1 : Hid (∀ g ∈ pTerm, w.heap.size + 3 ≤ g) := fun g hg => Nat.le_trans Z0.out (hf1.1 g hg)
  have zz1 : Hid (w.heap.size + 3 ≤ w1.heap.size) := Nat.le_trans Z0.out hb1.size
  have cx4 := bx1.cell 4
  have co0 := bo1.cell 0
  have fo0 := bo1.free 0
  have co1 := bo1.cell 1
  have fo1 := bo1.free 1
  have co2 := bo1.cell 2
  have fo2 := bo1.free 2
  have co3 := bo1.cell 3
  have fo3 := bo1.free 3
  simp only [List.getElem?_cons_zero, List.getElem?_cons_succ] at cx4 co0 co1 co2 co3
  have lw1 := bo1.lt
  have HBX1 := Lib.hid bx1; have HBR1 := Lib.hid br1; have HBO1 := Lib.hid bo1; have HO1 := Lib.hid ho1; clear bx1 br1 bo1 ho1
  go_wp2_with fail
  clear cx4 co0 co1 co2 co3 fo0 fo1 fo2 fo3 lw1
  have H1 : Below w.heap.size w ((((w1.setCell ⟨w.heap.size + 1 + 1, 0, none⟩ ((.int .i64 k1i0))).setCell ⟨w.heap.size + 1 + 1, 1, none⟩ ((.int .i64 k1i1))).setCell ⟨w.heap.size + 1 + 1, 2, none⟩ ((.slice k1a2 k1n2 k1c2))).setCell ⟨w.heap.size + 1 + 1, 3, none⟩ ((.slice k1a3 k1n3 k1c3))) := ((((G1.setCell (by simp; omega) _).setCell (by simp; omega) _).setCell (by simp; omega) _).setCell (by simp; omega) _)
  have BX1 : Hid (Blk ((((w1.setCell ⟨w.heap.size + 1 + 1, 0, none⟩ ((.int .i64 k1i0))).setCell ⟨w.heap.size + 1 + 1, 1, none⟩ ((.int .i64 k1i1))).setCell ⟨w.heap.size + 1 + 1, 2, none⟩ ((.slice k1a2 k1n2 k1c2))).setCell ⟨w.heap.size + 1 + 1, 3, none⟩ ((.slice k1a3 k1n3 k1c3))) w.heap.size 41 [v0, v1, v2, v3, v4]) := ((((HBX1.out.other (by dsimp only; omega) ((.int .i64 k1i0))).other (by dsimp only; omega) ((.int .i64 k1i1))).other (by dsimp only; omega) ((.slice k1a2 k1n2 k1c2))).other (by dsimp only; omega) ((.slice k1a3 k1n3 k1c3)))
  have BR1 : Hid (Blk ((((w1.setCell ⟨w.heap.size + 1 + 1, 0, none⟩ ((.int .i64 k1i0))).setCell ⟨w.heap.size + 1 + 1, 1, none⟩ ((.int .i64 k1i1))).setCell ⟨w.heap.size + 1 + 1, 2, none⟩ ((.slice k1a2 k1n2 k1c2))).setCell ⟨w.heap.size + 1 + 1, 3, none⟩ ((.slice k1a3 k1n3 k1c3))) (w.heap.size + 1) 48 [.int .i64 0, .int .i64 0, .slice none 0 0, .slice none 0 0, .slice none 0 0]) := ((((HBR1.out.other (by dsimp only; omega) ((.int .i64 k1i0))).other (by dsimp only; omega) ((.int .i64 k1i1))).other (by dsimp only; omega) ((.slice k1a2 k1n2 k1c2))).other (by dsimp only; omega) ((.slice k1a3 k1n3 k1c3)))
  have BO1 : Hid (Blk ((((w1.setCell ⟨w.heap.size + 1 + 1, 0, none⟩ ((.int .i64 k1i0))).setCell ⟨w.heap.size + 1 + 1, 1, none⟩ ((.int .i64 k1i1))).setCell ⟨w.heap.size + 1 + 1, 2, none⟩ ((.slice k1a2 k1n2 k1c2))).setCell ⟨w.heap.size + 1 + 1, 3, none⟩ ((.slice k1a3 k1n3 k1c3))) (w.heap.size + 1 + 1) 48 [(.int .i64 k1i0), (.int .i64 k1i1), (.slice k1a2 k1n2 k1c2), (.slice k1a3 k1n3 k1c3), .slice none 0 0]) := ((((HBO1.out.set 0 ((.int .i64 k1i0))).set 1 ((.int .i64 k1i1))).set 2 ((.slice k1a2 k1n2 k1c2))).set 3 ((.slice k1a3 k1n3 k1c3)))
  have Z1 : Hid (w.heap.size + 3 ≤ (((((w1.setCell ⟨w.heap.size + 1 + 1, 0, none⟩ ((.int .i64 k1i0))).setCell ⟨w.heap.size + 1 + 1, 1, none⟩ ((.int .i64 k1i1))).setCell ⟨w.heap.size + 1 + 1, 2, none⟩ ((.slice k1a2 k1n2 k1c2))).setCell ⟨w.heap.size + 1 + 1, 3, none⟩ ((.slice k1a3 k1n3 k1c3)))).heap.size) := by have := zz1.out; simpa [Hid, World.setCell] using this
  have OTerm1 : Hid (OwnC ((((w1.setCell ⟨w.heap.size + 1 + 1, 0, none⟩ ((.int .i64 k1i0))).setCell ⟨w.heap.size + 1 + 1, 1, none⟩ ((.int .i64 k1i1))).setCell ⟨w.heap.size + 1 + 1, 2, none⟩ ((.slice k1a2 k1n2 k1c2))).setCell ⟨w.heap.size + 1 + 1, 3, none⟩ ((.slice k1a3 k1n3 k1c3))) [(.int .i64 k1i0), (.int .i64 k1i1), (.slice k1a2 k1n2 k1c2), (.slice k1a3 k1n3 k1c3)] x.fTerm.toD pTerm) := ((((HO1.out.keep fun g hg => Below.heap_setCell _ _ _ _ (by have := ny1.out g hg; simp; omega)).keep fun g hg => Below.heap_setCell _ _ _ _ (by have := ny1.out g hg; simp; omega)).keep fun g hg => Below.heap_setCell _ _ _ _ (by have := ny1.out g hg; simp; omega)).keep fun g hg => Below.heap_setCell _ _ _ _ (by have := ny1.out g hg; simp; omega))
  have NYTerm := ny1
  have FRTerm := Lib.hid hf1
  refine (toStringS_any x.fLabels _ _ (RrLabels.out.below H1) (by have h1 := HW.out; have h2 := HT.out; omega)).mono ?_
  rintro e w2 ⟨a2, n2, c2, pLabels, rfl, ho2, hf2, hb2⟩
  have G2 := bnext H1 hb2
  have bx2 := BX1.out.below hb2 BX1.out.lt
  have br2 := BR1.out.below hb2 BR1.out.lt
  have bo2 := BO1.out.below hb2 BO1.out.lt
  have ny2 : Hid (∀ g ∈ pLabels, w.heap.size + 3 ≤ g) := fun g hg => Nat.le_trans Z1.out (hf2.1 g hg)
  have zz2 : Hid (w.heap.size + 3 ≤ w2.heap.size) := Nat.le_trans Z1.out hb2.size
  have OTerm2 : Hid (OwnC w2 [(.int .i64 k1i0), (.int .i64 k1i1), (.slice k1a2 k1n2 k1c2), (.slice k1a3 k1n3 k1c3)] x.fTerm.toD pTerm) := OTerm1.out.keep fun g hg => hb2.block g (OTerm1.out.lt g hg)
  have co4 := bo2.cell 4
  have fo4 := bo2.free 4
  have co0 := bo2.cell 0
  have co1 := bo2.cell 1
  have co2 := bo2.cell 2
  have co3 := bo2.cell 3
  have cr0 := br2.cell 0
  have fr0 := br2.free 0
  have cr1 := br2.cell 1
  have fr1 := br2.free 1
  have cr2 := br2.cell 2
  have fr2 := br2.free 2
  have cr3 := br2.cell 3
  have fr3 := br2.free 3
  have cr4 := br2.cell 4
  have fr4 := br2.free 4
  simp only [List.getElem?_cons_zero, List.getElem?_cons_succ] at co0 co1 co2 co3 co4 cr0 cr1 cr2 cr3 cr4
  have lw2 := bo2.lt
  have HBX2 := Lib.hid bx2; have HBR2 := Lib.hid br2; have HBO2 := Lib.hid bo2; have HO2 := Lib.hid ho2; clear bx2 br2 bo2 ho2
  go_wp2_with fail
  have OTerm2 : Hid (OwnC (w2.setCell ⟨w.heap.size + 1 + 1, 4, none⟩ (.slice a2 n2 c2)) [(.int .i64 k1i0), (.int .i64 k1i1), (.slice k1a2 k1n2 k1c2), (.slice k1a3 k1n3 k1c3)] x.fTerm.toD pTerm) := (OTerm2.out.keep fun g hg => Below.heap_setCell _ _ _ _ (by have := NYTerm.out g hg; simp; omega))
  have OLabels2 : Hid (Own (w2.setCell ⟨w.heap.size + 1 + 1, 4, none⟩ (.slice a2 n2 c2)) (strs x.fLabels) (.slice a2 n2 c2) pLabels) := (HO2.out.keep fun g hg => Below.heap_setCell _ _ _ _ (by have := ny2.out g hg; simp; omega))
  have NYLabels := ny2
  have FRLabels := Lib.hid hf2
  have bf : Blk ((((((w2.setCell ⟨w.heap.size + 1 + 1, 4, none⟩ (.slice a2 n2 c2)).setCell ⟨w.heap.size + 1, 0, none⟩ ((.int .i64 k1i0))).setCell ⟨w.heap.size + 1, 1, none⟩ ((.int .i64 k1i1))).setCell ⟨w.heap.size + 1, 2, none⟩ ((.slice k1a2 k1n2 k1c2))).setCell ⟨w.heap.size + 1, 3, none⟩ ((.slice k1a3 k1n3 k1c3))).setCell ⟨w.heap.size + 1, 4, none⟩ (.slice a2 n2 c2)) (w.heap.size + 1) 48 [(.int .i64 k1i0), (.int .i64 k1i1), (.slice k1a2 k1n2 k1c2), (.slice k1a3 k1n3 k1c3), .slice a2 n2 c2] := ((((((HBR2.out.other (by dsimp only; omega) (.slice a2 n2 c2)).set 0 ((.int .i64 k1i0))).set 1 ((.int .i64 k1i1))).set 2 ((.slice k1a2 k1n2 k1c2))).set 3 ((.slice k1a3 k1n3 k1c3))).set 4 (.slice a2 n2 c2))
  have z0 := bf.cell 0
  have z1 := bf.cell 1
  have z2 := bf.cell 2
  have z3 := bf.cell 3
  have z4 := bf.cell 4
  simp only [List.getElem?_cons_zero, List.getElem?_cons_succ] at z0 z1 z2 z3 z4
  have OFTerm : Hid (OwnC ((((((w2.setCell ⟨w.heap.size + 1 + 1, 4, none⟩ (.slice a2 n2 c2)).setCell ⟨w.heap.size + 1, 0, none⟩ ((.int .i64 k1i0))).setCell ⟨w.heap.size + 1, 1, none⟩ ((.int .i64 k1i1))).setCell ⟨w.heap.size + 1, 2, none⟩ ((.slice k1a2 k1n2 k1c2))).setCell ⟨w.heap.size + 1, 3, none⟩ ((.slice k1a3 k1n3 k1c3))).setCell ⟨w.heap.size + 1, 4, none⟩ (.slice a2 n2 c2)) [(.int .i64 k1i0), (.int .i64 k1i1), (.slice k1a2 k1n2 k1c2), (.slice k1a3 k1n3 k1c3)] x.fTerm.toD pTerm) := (((((OTerm2.out.keep fun g hg => Below.heap_setCell _ _ _ _ (by have := NYTerm.out g hg; simp; omega)).keep fun g hg => Below.heap_setCell _ _ _ _ (by have := NYTerm.out g hg; simp; omega)).keep fun g hg => Below.heap_setCell _ _ _ _ (by have := NYTerm.out g hg; simp; omega)).keep fun g hg => Below.heap_setCell _ _ _ _ (by have := NYTerm.out g hg; simp; omega)).keep fun g hg => Below.heap_setCell _ _ _ _ (by have := NYTerm.out g hg; simp; omega))
  have OFLabels : Hid (Own ((((((w2.setCell ⟨w.heap.size + 1 + 1, 4, none⟩ (.slice a2 n2 c2)).setCell ⟨w.heap.size + 1, 0, none⟩ ((.int .i64 k1i0))).setCell ⟨w.heap.size + 1, 1, none⟩ ((.int .i64 k1i1))).setCell ⟨w.heap.size + 1, 2, none⟩ ((.slice k1a2 k1n2 k1c2))).setCell ⟨w.heap.size + 1, 3, none⟩ ((.slice k1a3 k1n3 k1c3))).setCell ⟨w.heap.size + 1, 4, none⟩ (.slice a2 n2 c2)) (strs x.fLabels) (.slice a2 n2 c2) pLabels) := (((((OLabels2.out.keep fun g hg => Below.heap_setCell _ _ _ _ (by have := NYLabels.out g hg; simp; omega)).keep fun g hg => Below.heap_setCell _ _ _ _ (by have := NYLabels.out g hg; simp; omega)).keep fun g hg => Below.heap_setCell _ _ _ _ (by have := NYLabels.out g hg; simp; omega)).keep fun g hg => Below.heap_setCell _ _ _ _ (by have := NYLabels.out g hg; simp; omega)).keep fun g hg => Below.heap_setCell _ _ _ _ (by have := NYLabels.out g hg; simp; omega))
  have FF : Hid (Fresh w.heap.size (pTerm ++ pLabels)) := ((FRTerm.out.mono H0.size).append FRLabels.out H1.size (fun g hg => by exact OTerm1.out.lt g hg))
  exact bodyPost_ret (v := .agg #[(.int .i64 k1i0), (.int .i64 k1i1), (.slice k1a2 k1n2 k1c2), (.slice k1a3 k1n3 k1c3), .slice a2 n2 c2]) (by simp [results, Try.results22, go_sem, z0, z1, z2, z3, z4]) rfl ⟨[(.int .i64 k1i0), (.int .i64 k1i1), (.slice k1a2 k1n2 k1c2), (.slice k1a3 k1n3 k1c3), .slice a2 n2 c2], _, rfl, TLabelled.own_mk OFTerm.out OFLabels.out, FF.out, ((((((G2.setCell (by simp; omega) _).setCell (by simp) _).setCell (by simp) _).setCell (by simp) _).setCell (by simp) _).setCell (by simp) _)⟩

/-- What comparing comes to. -/
def EqOkLabelled (x : TLabelled) : Prop := ∀ (vs vs2 : List Value) (w : World), Reps w x.toD vs → Reps w x.toD vs2 → Calls Try.prog 24 #[.agg vs.toArray, .agg vs2.toArray] w (EqRet w)

set_option maxRecDepth 8000 in
set_option maxHeartbeats 2000000 in
theorem eqLabelled_any (x : TLabelled) : EqOkLabelled x := by
  intro vs vs2 w h h2
  obtain ⟨v0, v1, v2, v3, v4, rfl, rTerm, rLabels⟩ := TLabelled.reps_open h
  obtain ⟨z0, z1, z2, z3, z4, rfl, sTerm, sLabels⟩ := TLabelled.reps_open h2
  have RrTerm := Lib.hid rTerm; clear rTerm
  have SrTerm := Lib.hid sTerm; clear sTerm
  have RrLabels := Lib.hid rLabels; clear rLabels
  have SrLabels := Lib.hid sLabels; clear sLabels
  clear h h2
  have H0 : Below w.heap.size w ((w.alloc (.cells #[v0, v1, v2, v3, v4] 48)).alloc (.cells #[z0, z1, z2, z3, z4] 48)) := (alloc_below w _).alloc (by simp) _
  have BX0 : Hid (Blk ((w.alloc (.cells #[v0, v1, v2, v3, v4] 48)).alloc (.cells #[z0, z1, z2, z3, z4] 48)) w.heap.size 48 [v0, v1, v2, v3, v4]) := (Blk.new w _ [v0, v1, v2, v3, v4]).alloc _
  have BY0 : Hid (Blk ((w.alloc (.cells #[v0, v1, v2, v3, v4] 48)).alloc (.cells #[z0, z1, z2, z3, z4] 48)) (w.heap.size + 1) 48 [z0, z1, z2, z3, z4]) := by have h := Blk.new (w.alloc (.cells #[v0, v1, v2, v3, v4] 48)) 48 [z0, z1, z2, z3, z4]; simpa [Hid] using h
  go_enter Try.func24, Try.ntmps24
  go_wp2_with fail
  refine (eqCore_any x.fTerm [v0, v1, v2, v3] [z0, z1, z2, z3] _ (RrTerm.out.keep (Keeps.of_below H0)) (SrTerm.out.keep (Keeps.of_below H0))).mono ?_
  rintro e w1 ⟨rfl, hb1⟩
  have H1 := bnext H0 hb1
  have BX1 : Hid (Blk w1 w.heap.size 48 [v0, v1, v2, v3, v4]) := BX0.out.below hb1 BX0.out.lt
  have BY1 : Hid (Blk w1 (w.heap.size + 1) 48 [z0, z1, z2, z3, z4]) := BY0.out.below hb1 BY0.out.lt
  have cx4 := BX1.out.cell 4
  have cy4 := BY1.out.cell 4
  simp only [List.getElem?_cons_zero, List.getElem?_cons_succ] at cx4 cy4
  go_wp2_with fail
  clear cx4 cy4
  refine (eqStringS_any x.fLabels _ _ _ (RrLabels.out.below H1) (SrLabels.out.below H1)).mono ?_
  rintro e w2 ⟨rfl, hb2⟩
  have H2 := bnext H1 hb2
  have BX2 : Hid (Blk w2 w.heap.size 48 [v0, v1, v2, v3, v4]) := BX1.out.below hb2 BX1.out.lt
  have BY2 : Hid (Blk w2 (w.heap.size + 1) 48 [z0, z1, z2, z3, z4]) := BY1.out.below hb2 BY1.out.lt
  go_wp2_with fail
  go_ret
  exact ⟨rfl, H2⟩

end Go.Proofs.Ytmcnnjelajgkjaa
