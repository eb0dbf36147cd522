/-
  The law FnExactSameLabelled.
-/
import Derived.Test.YtmcnnjelajgkjaaRows
import Derived.Test.YtmcnnjelajgkjaaSameG
import Derived.Test.YtmcnnjelajgkjaaTyped
import Derived.Deep.RegionHeld3
namespace Go.Proofs.Ytmcnnjelajgkjaa.lawSameLabelled
set_option linter.unusedVariables false
open Go.ChangeShapes Go.WideShapes Go.ChangeAt Go.RowKit
open Go.ChangeMaps (open_string shut_string)

theorem same_bool {b c : Bool} {p : Prop} (h : b = true ↔ p) (k : c = true ↔ p) : c = b := by
  cases b <;> cases c <;> simp_all

set_option maxRecDepth 8000 in
set_option maxHeartbeats 2000000 in
theorem walk0 (x y : TLabelled) (vs zs : List Value) (w : World) (h : Reps w x.toD vs) (h2 : Reps w y.toD zs) :
    Calls Try.prog 7 #[.agg vs.toArray, .agg zs.toArray] w fun e w' => e = .returned (.bool true) ∧ Below w.heap.size w w' := by
  have HX := Lib.hid h
  have HY := Lib.hid h2
  obtain ⟨v0, v1, v2, v3, v4, rfl, -⟩ := TLabelled.reps_open h
  obtain ⟨z0, z1, z2, z3, z4, rfl, -⟩ := TLabelled.reps_open h2
  clear h h2
  have H0 : Below w.heap.size w ((w.alloc (.cells #[v0, v1, v2, v3, v4] 41)).alloc (.cells #[z0, z1, z2, z3, z4] 41)) := (alloc_below w _).alloc (by simp) _
  have BX0 : Hid (Blk ((w.alloc (.cells #[v0, v1, v2, v3, v4] 41)).alloc (.cells #[z0, z1, z2, z3, z4] 41)) w.heap.size 41 [v0, v1, v2, v3, v4]) := (Blk.new w _ [v0, v1, v2, v3, v4]).alloc _
  have BY0 : Hid (Blk ((w.alloc (.cells #[v0, v1, v2, v3, v4] 41)).alloc (.cells #[z0, z1, z2, z3, z4] 41)) (w.heap.size + 1) 41 [z0, z1, z2, z3, z4]) := by have h := Blk.new (w.alloc (.cells #[v0, v1, v2, v3, v4] 41)) 41 [z0, z1, z2, z3, z4]; simpa [Hid] using h
  go_enter Try.func7, Try.ntmps7
  go_wp2_with fail
  refine (szLabelled_any x [v0, v1, v2, v3, v4] 1048576 _ (HX.out.keep (Keeps.of_below H0)) (by decide) (by decide)).mono ?_
  rintro e w1 ⟨m1, rfl, hs, hb1⟩
  have H1 := bnext H0 hb1
  have BX1 : Hid (Blk w1 w.heap.size 41 [v0, v1, v2, v3, v4]) := BX0.out.below hb1 BX0.out.lt
  have BY1 : Hid (Blk w1 (w.heap.size + 1) 41 [z0, z1, z2, z3, z4]) := BY0.out.below hb1 BY0.out.lt
  rcases hs with ⟨rfl, hq⟩ | ⟨e1, hq⟩
  · clear hq
    go_wp2_with fail
    go_ret
    exact ⟨rfl, H1⟩
  · have p0 : 0 ≤ m1 := by omega
    have p1 : m1 ≤ 1048576 := by omega
    have WX : Hid (wts x.toD ≤ 1048576) := Lib.hid (by omega)
    clear e1 hq
    have cx0 : w1.cell? ⟨w.heap.size, 0, none⟩ = some v0 := BX1.out.cell 0
    have cx1 : w1.cell? ⟨w.heap.size, 1, none⟩ = some v1 := BX1.out.cell 1
    have cx2 : w1.cell? ⟨w.heap.size, 2, none⟩ = some v2 := BX1.out.cell 2
    have cx3 : w1.cell? ⟨w.heap.size, 3, none⟩ = some v3 := BX1.out.cell 3
    have cx4 : w1.cell? ⟨w.heap.size, 4, none⟩ = some v4 := BX1.out.cell 4
    have cy0 : w1.cell? ⟨w.heap.size + 1, 0, none⟩ = some z0 := BY1.out.cell 0
    have cy1 : w1.cell? ⟨w.heap.size + 1, 1, none⟩ = some z1 := BY1.out.cell 1
    have cy2 : w1.cell? ⟨w.heap.size + 1, 2, none⟩ = some z2 := BY1.out.cell 2
    have cy3 : w1.cell? ⟨w.heap.size + 1, 3, none⟩ = some z3 := BY1.out.cell 3
    have cy4 : w1.cell? ⟨w.heap.size + 1, 4, none⟩ = some z4 := BY1.out.cell 4
    go_wp2_with fail
    refine (szLabelled_any y [z0, z1, z2, z3, z4] m1 _ (HY.out.keep (Keeps.of_below H1)) p0 p1).mono ?_
    rintro e w2 ⟨m2, rfl, hs, hb2⟩
    have H2 := bnext H1 hb2
    have BX2 : Hid (Blk w2 w.heap.size 41 [v0, v1, v2, v3, v4]) := BX1.out.below hb2 BX1.out.lt
    have BY2 : Hid (Blk w2 (w.heap.size + 1) 41 [z0, z1, z2, z3, z4]) := BY1.out.below hb2 BY1.out.lt
    clear cx0 cx1 cx2 cx3 cx4 cy0 cy1 cy2 cy3 cy4
    rcases hs with ⟨rfl, hq⟩ | ⟨e2, hq⟩
    · clear hq
      go_wp2_with fail
      go_ret
      exact ⟨rfl, H2⟩
    · have q0 : 0 ≤ m2 := by omega
      have WY : Hid (wts y.toD ≤ 1048576) := Lib.hid (by omega)
      clear e2 hq p1 p0
      have cx0 : w2.cell? ⟨w.heap.size, 0, none⟩ = some v0 := BX2.out.cell 0
      have cx1 : w2.cell? ⟨w.heap.size, 1, none⟩ = some v1 := BX2.out.cell 1
      have cx2 : w2.cell? ⟨w.heap.size, 2, none⟩ = some v2 := BX2.out.cell 2
      have cx3 : w2.cell? ⟨w.heap.size, 3, none⟩ = some v3 := BX2.out.cell 3
      have cx4 : w2.cell? ⟨w.heap.size, 4, none⟩ = some v4 := BX2.out.cell 4
      have cy0 : w2.cell? ⟨w.heap.size + 1, 0, none⟩ = some z0 := BY2.out.cell 0
      have cy1 : w2.cell? ⟨w.heap.size + 1, 1, none⟩ = some z1 := BY2.out.cell 1
      have cy2 : w2.cell? ⟨w.heap.size + 1, 2, none⟩ = some z2 := BY2.out.cell 2
      have cy3 : w2.cell? ⟨w.heap.size + 1, 3, none⟩ = some z3 := BY2.out.cell 3
      have cy4 : w2.cell? ⟨w.heap.size + 1, 4, none⟩ = some z4 := BY2.out.cell 4
      have KX : Hid (∀ W, Below w.heap.size w W → Calls Try.prog 22 #[.agg #[v0, v1, v2, v3, v4]] W (ToStRet W x.toD)) := Lib.hid fun W hW => toLabelled_any x [v0, v1, v2, v3, v4] W (HX.out.keep (Keeps.of_below hW)) WX.out
      have KY : Hid (∀ W, Below w.heap.size w W → Calls Try.prog 22 #[.agg #[z0, z1, z2, z3, z4]] W (ToStRet W y.toD)) := Lib.hid fun W hW => toLabelled_any y [z0, z1, z2, z3, z4] W (HY.out.keep (Keeps.of_below hW)) WY.out
      go_wp2_with fail
      have KS : Hid (∀ W, Below w2.heap.size w2 W → W.cell? ⟨w.heap.size, 0, none⟩ = some v0 ∧ W.cell? ⟨w.heap.size, 1, none⟩ = some v1 ∧ W.cell? ⟨w.heap.size, 2, none⟩ = some v2 ∧ W.cell? ⟨w.heap.size, 3, none⟩ = some v3 ∧ W.cell? ⟨w.heap.size, 4, none⟩ = some v4 ∧ W.cell? ⟨w.heap.size + 1, 0, none⟩ = some z0 ∧ W.cell? ⟨w.heap.size + 1, 1, none⟩ = some z1 ∧ W.cell? ⟨w.heap.size + 1, 2, none⟩ = some z2 ∧ W.cell? ⟨w.heap.size + 1, 3, none⟩ = some z3 ∧ W.cell? ⟨w.heap.size + 1, 4, none⟩ = some z4) := Lib.hid fun W hW => by
        have bx := BX2.out.below hW BX2.out.lt
        have by' := BY2.out.below hW BY2.out.lt
        exact ⟨bx.cell 0, bx.cell 1, bx.cell 2, bx.cell 3, bx.cell 4, by'.cell 0, by'.cell 1, by'.cell 2, by'.cell 3, by'.cell 4⟩
      go_region_held3 (fun w' => w'.cell? ⟨w.heap.size, 0, none⟩ = some v0 ∧ w'.cell? ⟨w.heap.size, 1, none⟩ = some v1 ∧ w'.cell? ⟨w.heap.size, 2, none⟩ = some v2 ∧ w'.cell? ⟨w.heap.size, 3, none⟩ = some v3 ∧ w'.cell? ⟨w.heap.size, 4, none⟩ = some v4 ∧ w'.cell? ⟨w.heap.size + 1, 0, none⟩ = some z0 ∧ w'.cell? ⟨w.heap.size + 1, 1, none⟩ = some z1 ∧ w'.cell? ⟨w.heap.size + 1, 2, none⟩ = some z2 ∧ w'.cell? ⟨w.heap.size + 1, 3, none⟩ = some z3 ∧ w'.cell? ⟨w.heap.size + 1, 4, none⟩ = some z4) (first | exact KS.out _ HBc | exact KS.out _ HBb | exact KS.out _ HBa | exact KS.out _ (Below.refl _ _).drew)
        (first
          | (go_at_call_of 22 (Value.agg #[v0, v1, v2, v3, v4]); refine (KX.out _ H2.drew).mono ?_; rintro e wa ⟨us, pa, rfl, hoa, hfa, hba⟩; have HBa := bnext (Below.refl _ w2).drew hba; have HOA := Lib.hid hoa; clear hoa)
          | (go_at_call_of 22 (Value.agg #[z0, z1, z2, z3, z4]); refine (KY.out _ (bnext H2 HBa)).mono ?_; rintro e wb ⟨ts, pb, rfl, hob, hfb, hbb⟩; have HBb := bnext HBa hbb; have HOB := Lib.hid hob; clear hob)
          | (go_at_call 21; refine (specSame_any x y us ts _ (HOA.out.reps.kept hbb) HOB.out.reps).mono ?_; rintro e wc ⟨b, rfl, hb, hbc⟩; have HBc := bnext HBb hbc))
      have H3 := bnext H2 HBc
      obtain ⟨cx0, cx1, cx2, cx3, cx4, cy0, cy1, cy2, cy3, cy4⟩ := KS.out _ HBc
      go_wp2_with fail
      clear cx0 cx1 cx2 cx3 cx4 cy0 cy1 cy2 cy3 cy4
      refine (KX.out _ H3).mono ?_
      rintro e w4 ⟨us4, p4, rfl, ho4, hf4, hb4⟩
      obtain ⟨i0, i1, a2, n2, c2, a3, n3, c3, a4, n4, c4, rfl⟩ := TLabelled.shape ho4.reps
      have HB4 := bnext (bnext HBc hb4) (alloc_below w4 (Obj.cells #[.int .i64 i0, .int .i64 i1, .slice a2 n2 c2, .slice a3 n3 c3, .slice a4 n4 c4] 48))
      have H4 := bnext H2 HB4
      obtain ⟨cx0, cx1, cx2, cx3, cx4, cy0, cy1, cy2, cy3, cy4⟩ := KS.out _ HB4
      have R4 : Hid (Reps w4 x.toD [.int .i64 i0, .int .i64 i1, .slice a2 n2 c2, .slice a3 n3 c3, .slice a4 n4 c4]) := ho4.reps
      clear ho4 hf4
      go_wp2_with fail
      clear cx0 cx1 cx2 cx3 cx4 cy0 cy1 cy2 cy3 cy4
      refine (KY.out _ H4).mono ?_
      rintro e w5 ⟨us5, p5, rfl, ho5, hf5, hb5⟩
      obtain ⟨j0, j1, d2, m2', g2, d3, m3, g3, d4, m4, g4, rfl⟩ := TLabelled.shape ho5.reps
      have HB5 := bnext (bnext HB4 hb5) (alloc_below w5 (Obj.cells #[.int .i64 j0, .int .i64 j1, .slice d2 m2' g2, .slice d3 m3 g3, .slice d4 m4 g4] 48))
      have H5 := bnext H2 HB5
      have R5 : Hid (Reps (w5.alloc (Obj.cells #[.int .i64 j0, .int .i64 j1, .slice d2 m2' g2, .slice d3 m3 g3, .slice d4 m4 g4] 48)) y.toD [.int .i64 j0, .int .i64 j1, .slice d2 m2' g2, .slice d3 m3 g3, .slice d4 m4 g4]) := ho5.reps.kept (alloc_below w5 _)
      have B45 := bnext (bnext (alloc_below w4 (Obj.cells #[.int .i64 i0, .int .i64 i1, .slice a2 n2 c2, .slice a3 n3 c3, .slice a4 n4 c4] 48)) hb5) (alloc_below w5 (Obj.cells #[.int .i64 j0, .int .i64 j1, .slice d2 m2' g2, .slice d3 m3 g3, .slice d4 m4 g4] 48))
      have R45 : Hid (Reps (w5.alloc (Obj.cells #[.int .i64 j0, .int .i64 j1, .slice d2 m2' g2, .slice d3 m3 g3, .slice d4 m4 g4] 48)) x.toD [.int .i64 i0, .int .i64 i1, .slice a2 n2 c2, .slice a3 n3 c3, .slice a4 n4 c4]) := R4.out.kept B45
      clear ho5 hf5
      have Q4 : Hid (Blk (w4.alloc (Obj.cells #[.int .i64 i0, .int .i64 i1, .slice a2 n2 c2, .slice a3 n3 c3, .slice a4 n4 c4] 48)) w4.heap.size 48 [.int .i64 i0, .int .i64 i1, .slice a2 n2 c2, .slice a3 n3 c3, .slice a4 n4 c4]) := Blk.new w4 _ [.int .i64 i0, .int .i64 i1, .slice a2 n2 c2, .slice a3 n3 c3, .slice a4 n4 c4]
      have Q5 : Hid (Blk (w5.alloc (Obj.cells #[.int .i64 j0, .int .i64 j1, .slice d2 m2' g2, .slice d3 m3 g3, .slice d4 m4 g4] 48)) w4.heap.size 48 [.int .i64 i0, .int .i64 i1, .slice a2 n2 c2, .slice a3 n3 c3, .slice a4 n4 c4]) := (Q4.out.below hb5 Q4.out.lt).alloc _
      have P5 : Hid (Blk (w5.alloc (Obj.cells #[.int .i64 j0, .int .i64 j1, .slice d2 m2' g2, .slice d3 m3 g3, .slice d4 m4 g4] 48)) w5.heap.size 48 [.int .i64 j0, .int .i64 j1, .slice d2 m2' g2, .slice d3 m3 g3, .slice d4 m4 g4]) := Blk.new w5 _ [.int .i64 j0, .int .i64 j1, .slice d2 m2' g2, .slice d3 m3 g3, .slice d4 m4 g4]
      have dx0 : (w5.alloc (Obj.cells #[.int .i64 j0, .int .i64 j1, .slice d2 m2' g2, .slice d3 m3 g3, .slice d4 m4 g4] 48)).cell? ⟨w4.heap.size, 0, none⟩ = some (.int .i64 i0) := Q5.out.cell 0
      have dx1 : (w5.alloc (Obj.cells #[.int .i64 j0, .int .i64 j1, .slice d2 m2' g2, .slice d3 m3 g3, .slice d4 m4 g4] 48)).cell? ⟨w4.heap.size, 1, none⟩ = some (.int .i64 i1) := Q5.out.cell 1
      have dx2 : (w5.alloc (Obj.cells #[.int .i64 j0, .int .i64 j1, .slice d2 m2' g2, .slice d3 m3 g3, .slice d4 m4 g4] 48)).cell? ⟨w4.heap.size, 2, none⟩ = some (.slice a2 n2 c2) := Q5.out.cell 2
      have dx3 : (w5.alloc (Obj.cells #[.int .i64 j0, .int .i64 j1, .slice d2 m2' g2, .slice d3 m3 g3, .slice d4 m4 g4] 48)).cell? ⟨w4.heap.size, 3, none⟩ = some (.slice a3 n3 c3) := Q5.out.cell 3
      have dx4 : (w5.alloc (Obj.cells #[.int .i64 j0, .int .i64 j1, .slice d2 m2' g2, .slice d3 m3 g3, .slice d4 m4 g4] 48)).cell? ⟨w4.heap.size, 4, none⟩ = some (.slice a4 n4 c4) := Q5.out.cell 4
      go_wp2_with fail
      clear dx0 dx1 dx2 dx3 dx4
      refine (implSame_any x y [.int .i64 i0, .int .i64 i1, .slice a2 n2 c2, .slice a3 n3 c3, .slice a4 n4 c4] [.int .i64 j0, .int .i64 j1, .slice d2 m2' g2, .slice d3 m3 g3, .slice d4 m4 g4] _ R45.out R5.out).mono ?_
      rintro e w6 ⟨b2, rfl, hb2, hb6⟩
      obtain rfl : b2 = b := same_bool hb.out hb2.out
      have HB6 := bnext HB5 hb6
      have H6 := bnext H2 HB6
      have Q6 : Hid (Blk w6 w4.heap.size 48 [.int .i64 i0, .int .i64 i1, .slice a2 n2 c2, .slice a3 n3 c3, .slice a4 n4 c4]) := Q5.out.below hb6 Q5.out.lt
      have P6 : Hid (Blk w6 w5.heap.size 48 [.int .i64 j0, .int .i64 j1, .slice d2 m2' g2, .slice d3 m3 g3, .slice d4 m4 g4]) := P5.out.below hb6 P5.out.lt
      have R46 : Hid (Reps w6 x.toD [.int .i64 i0, .int .i64 i1, .slice a2 n2 c2, .slice a3 n3 c3, .slice a4 n4 c4]) := R45.out.kept hb6
      have R56 : Hid (Reps w6 y.toD [.int .i64 j0, .int .i64 j1, .slice d2 m2' g2, .slice d3 m3 g3, .slice d4 m4 g4]) := R5.out.kept hb6
      have KT : Hid (∀ W, Below w6.heap.size w6 W → W.cell? ⟨w4.heap.size, 0, none⟩ = some (.int .i64 i0) ∧ W.cell? ⟨w4.heap.size, 1, none⟩ = some (.int .i64 i1) ∧ W.cell? ⟨w4.heap.size, 2, none⟩ = some (.slice a2 n2 c2) ∧ W.cell? ⟨w4.heap.size, 3, none⟩ = some (.slice a3 n3 c3) ∧ W.cell? ⟨w4.heap.size, 4, none⟩ = some (.slice a4 n4 c4) ∧ W.cell? ⟨w.heap.size, 0, none⟩ = some v0 ∧ W.cell? ⟨w.heap.size, 1, none⟩ = some v1 ∧ W.cell? ⟨w.heap.size, 2, none⟩ = some v2 ∧ W.cell? ⟨w.heap.size, 3, none⟩ = some v3 ∧ W.cell? ⟨w.heap.size, 4, none⟩ = some v4) := Lib.hid fun W hW => by
        obtain ⟨cx0, cx1, cx2, cx3, cx4, -⟩ := KS.out _ (bnext HB6 hW)
        have q := Q6.out.below hW Q6.out.lt
        exact ⟨q.cell 0, q.cell 1, q.cell 2, q.cell 3, q.cell 4, cx0, cx1, cx2, cx3, cx4⟩
      have KU : Hid (∀ W, Below w6.heap.size w6 W → W.cell? ⟨w5.heap.size, 0, none⟩ = some (.int .i64 j0) ∧ W.cell? ⟨w5.heap.size, 1, none⟩ = some (.int .i64 j1) ∧ W.cell? ⟨w5.heap.size, 2, none⟩ = some (.slice d2 m2' g2) ∧ W.cell? ⟨w5.heap.size, 3, none⟩ = some (.slice d3 m3 g3) ∧ W.cell? ⟨w5.heap.size, 4, none⟩ = some (.slice d4 m4 g4) ∧ W.cell? ⟨w.heap.size + 1, 0, none⟩ = some z0 ∧ W.cell? ⟨w.heap.size + 1, 1, none⟩ = some z1 ∧ W.cell? ⟨w.heap.size + 1, 2, none⟩ = some z2 ∧ W.cell? ⟨w.heap.size + 1, 3, none⟩ = some z3 ∧ W.cell? ⟨w.heap.size + 1, 4, none⟩ = some z4) := Lib.hid fun W hW => by
        obtain ⟨-, -, -, -, -, cx0, cx1, cx2, cx3, cx4⟩ := KS.out _ (bnext HB6 hW)
        have q := P6.out.below hW P6.out.lt
        exact ⟨q.cell 0, q.cell 1, q.cell 2, q.cell 3, q.cell 4, cx0, cx1, cx2, cx3, cx4⟩
      clear HBa HBb HBc hba hbb hbc hfa hfb hb hb2 HOA HOB
      go_wp2_with fail
      go_region_held3 (fun w' => w'.cell? ⟨w4.heap.size, 0, none⟩ = some (.int .i64 i0) ∧ w'.cell? ⟨w4.heap.size, 1, none⟩ = some (.int .i64 i1) ∧ w'.cell? ⟨w4.heap.size, 2, none⟩ = some (.slice a2 n2 c2) ∧ w'.cell? ⟨w4.heap.size, 3, none⟩ = some (.slice a3 n3 c3) ∧ w'.cell? ⟨w4.heap.size, 4, none⟩ = some (.slice a4 n4 c4) ∧ w'.cell? ⟨w.heap.size, 0, none⟩ = some v0 ∧ w'.cell? ⟨w.heap.size, 1, none⟩ = some v1 ∧ w'.cell? ⟨w.heap.size, 2, none⟩ = some v2 ∧ w'.cell? ⟨w.heap.size, 3, none⟩ = some v3 ∧ w'.cell? ⟨w.heap.size, 4, none⟩ = some v4) (first | exact KT.out _ HBb | exact KT.out _ HBa | exact KT.out _ (Below.refl _ _).drew)
        (first
          | (go_at_call 22; refine (KX.out _ H6.drew).mono ?_; rintro e wa ⟨us6, pa, rfl, hoa, hfa, hba⟩; have HBa := bnext (Below.refl _ w6).drew hba; have HOA := Lib.hid hoa; clear hoa)
          | (go_at_call 24; refine (eqLabelled_any x [.int .i64 i0, .int .i64 i1, .slice a2 n2 c2, .slice a3 n3 c3, .slice a4 n4 c4] us6 _ (R46.out.kept HBa) HOA.out.reps).mono ?_; rintro e wb ⟨rfl, hbb⟩; have HBb := bnext HBa hbb))
      have HBV := HBb
      clear HBa HBb hba hbb hfa HOA
      have H7 := bnext H6 HBV
      go_wp2_with fail
      go_region_held3 (fun w' => w'.cell? ⟨w5.heap.size, 0, none⟩ = some (.int .i64 j0) ∧ w'.cell? ⟨w5.heap.size, 1, none⟩ = some (.int .i64 j1) ∧ w'.cell? ⟨w5.heap.size, 2, none⟩ = some (.slice d2 m2' g2) ∧ w'.cell? ⟨w5.heap.size, 3, none⟩ = some (.slice d3 m3 g3) ∧ w'.cell? ⟨w5.heap.size, 4, none⟩ = some (.slice d4 m4 g4) ∧ w'.cell? ⟨w.heap.size + 1, 0, none⟩ = some z0 ∧ w'.cell? ⟨w.heap.size + 1, 1, none⟩ = some z1 ∧ w'.cell? ⟨w.heap.size + 1, 2, none⟩ = some z2 ∧ w'.cell? ⟨w.heap.size + 1, 3, none⟩ = some z3 ∧ w'.cell? ⟨w.heap.size + 1, 4, none⟩ = some z4) (first | exact KU.out _ (bnext HBV HBb) | exact KU.out _ (bnext HBV HBa) | exact KU.out _ HBV.drew)
        (first
          | (go_at_call 22; refine (KY.out _ H7.drew).mono ?_; rintro e wc ⟨us7, pa, rfl, hoa, hfa, hba⟩; have HBa := bnext (Below.refl _ wb).drew hba; have HOA := Lib.hid hoa; clear hoa)
          | (go_at_call 24; refine (eqLabelled_any y [.int .i64 j0, .int .i64 j1, .slice d2 m2' g2, .slice d3 m3 g3, .slice d4 m4 g4] us7 _ (R56.out.kept (bnext HBV HBa)) HOA.out.reps).mono ?_; rintro e wd ⟨rfl, hbb⟩; have HBb := bnext HBa hbb))
      go_wp2_with fail
      go_ret
      exact ⟨rfl, bnext H7 HBb⟩


theorem walk (cs0 : Array Value) (dd0 : List D) (n0 : Nat) (ht0 : Typed Try.prog n0 41 dd0) (cs1 : Array Value) (dd1 : List D) (n1 : Nat) (ht1 : Typed Try.prog n1 41 dd1) (w : World) (h0 : Reps w dd0 (Value.agg cs0).cells.toList) (h1 : Reps w dd1 (Value.agg cs1).cells.toList) :
    Calls Try.prog 7 #[.agg cs0, .agg cs1] w fun e w' => e = .returned (.bool true) ∧ Below w.heap.size w w' := by
  obtain ⟨x, rfl⟩ := typed_Labelled _ _ ht0
  obtain ⟨y, rfl⟩ := typed_Labelled _ _ ht1
  have := walk0 x y cs0.toList cs1.toList w h0 h1
  simpa using this

theorem own : ownKnob Try.prog.godebug = none := by kernel_rfl
theorem laidOut : laidOutB Try.prog = true := by kernel_rfl
theorem okS : okTypes Try.prog [41, 38, 39, 9, 2, 35, 36] = true := by kernel_rfl
set_option maxRecDepth 100000 in
theorem lifted (os : Os) (started : os.Started) (H : Type) (enc : TypeId × Value → H) :
    ReturnsInHanded {} Try.checked os 7 .any (Rows.fnExactSameLabelledSpec.pre6 enc Try.prog Try.f7 Rows.fnExactSameLabelledRow.domain false) (Rows.fnExactSameLabelledSpec.post enc Try.prog Try.f7 false true false false) := by
  refine returnsInHanded_of_change (C := Try.checked) own started (by kernel_rfl) Try.func7
    (ChangeSpec.witness6 (enc := enc) (C := Try.checked) false ⟨#[], #[.agg #[.int .i64 0, .int .i64 0, .slice none 0 0, .slice none 0 0, .slice none 0 0], .agg #[.int .i64 0, .int .i64 0, .slice none 0 0, .slice none 0 0, .slice none 0 0]], []⟩ 8 (by kernel_rfl) (by kernel_rfl) (by kernel_rfl) (by kernel_rfl)) ?_
  intro W base args ds gs before hval0 hW hcnd _
  have hval : ∀ (j : Nat) t v, Try.f7.params[j]? = some t → args[j]? = some v → Value.okWide Try.prog W .any base t v := hval0
  have hW' := hW
  obtain ⟨p, q, hA0, hV, rfl, hfz, hnd⟩ := hW
  have hA : DataW.TrodAll enc Try.prog W 0 (fun _ => true) true Try.f7.params.toList args.toList ds p := hA0
  rw [Try.params7] at hA hval
  obtain ⟨v0, vs0, d0, ds0, p0, q0, hargs, rfl, rfl, h0, r0⟩ := trodAll_cons hA
  obtain ⟨v1, vs1, d1, ds1, p1, q1, rfl, rfl, rfl, h1, r1⟩ := trodAll_cons r0
  obtain ⟨rfl, rfl, rfl⟩ := trodAll_nil r1
  obtain rfl : args = #[v0, v1] := by cases args; simp_all
  obtain ⟨rfl, rfl⟩ := trodVars_none hV
  have k0 := h0
  have lt0 : ∀ x ∈ p0, x.block < W.heap.size := by obtain ⟨m, hm⟩ := k0; exact DataW.trod_lt m _ _ _ hm
  obtain ⟨cs0, rfl, -, -⟩ := agg_of_okWide (by kernel_rfl) (hval 0 41 v0 rfl rfl)
  obtain ⟨fu0, hf0⟩ := h0
  obtain ⟨dd0, ty0, re0⟩ := reads_of_trod _ okS fu0 _ _ _ (by decide) hf0
  have k1 := h1
  have lt1 : ∀ x ∈ p1, x.block < W.heap.size := by obtain ⟨m, hm⟩ := k1; exact DataW.trod_lt m _ _ _ hm
  obtain ⟨cs1, rfl, -, -⟩ := agg_of_okWide (by kernel_rfl) (hval 1 41 v1 rfl rfl)
  obtain ⟨fu1, hf1⟩ := h1
  obtain ⟨dd1, ty1, re1⟩ := reads_of_trod _ okS fu1 _ _ _ (by decide) hf1
  clear hA0 hval0
  refine (walk _ dd0 fu0 ty0 _ dd1 fu1 ty1 W re0 re1).mono fun e W' ⟨he, bel⟩ => ?_
  subst he
  exact ⟨_, rfl, _, _, _, [], _, [], hW', trodAll_mk1 (shut_bool Try.underlying4 _), (trodAll_cons_mk (Below.trod laidOut (by kernel_rfl) (of_decide_eq_true (by kernel_rfl)) k0 bel lt0) (trodAll_cons_mk (Below.trod laidOut (by kernel_rfl) (of_decide_eq_true (by kernel_rfl)) k1 bel lt1) trodAll_mk0)), rfl, bel.frame _, fun h => by cases h⟩

theorem over : Rows.fnExactSameLabelledRow.holds Try.pinned (OpenSpec.ofChange Rows.fnExactSameLabelledSpec) :=
  OpenClaim.holds_of_wide 7 Try.f7 rfl rfl rfl rfl rfl rfl rfl ⟨rfl, rfl, rfl, rfl, rfl⟩ rfl rfl rfl rfl rfl (by kernel_rfl) Try.func7 (by kernel_rfl)
    (of_decide_eq_true (by kernel_rfl)) (by unfold Func.isWrapper; first | (rw [if_pos (by decide +kernel)]; kernel_rfl) | (rw [if_neg (by decide +kernel)]; exact ⟨rfl, rfl⟩))
    (fun os started H enc _ => lifted os started H enc)

/-- THE STATEMENT. -/
theorem proved : Rows.FnExactSameLabelledSaid := over

end Go.Proofs.Ytmcnnjelajgkjaa.lawSameLabelled
