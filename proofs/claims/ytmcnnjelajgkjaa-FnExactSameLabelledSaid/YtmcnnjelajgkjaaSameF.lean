/-
  impl.SameCore; both SameLabelled.
-/
import Derived.Test.YtmcnnjelajgkjaaRows
import Derived.Test.YtmcnnjelajgkjaaSameE
import Derived.Test.YtmcnnjelajgkjaaTLabelled
namespace Go.Proofs.Ytmcnnjelajgkjaa
set_option linter.unusedVariables false
open Go.RowKit

set_option maxRecDepth 8000 in
set_option maxHeartbeats 1600000 in
theorem sameCore_of (x y : TCore) (HK : ∀ k ∈ x.fKids, ∀ k' ∈ y.fKids, SameCoreOk k k') : SameCoreOk x y := by
  intro vs vs2 w h h2
  obtain ⟨v2, v3, rfl, rKind, rValue, rData, rKids⟩ := TCore.reps_open h
  obtain ⟨z2, z3, rfl, sKind, sValue, sData, sKids⟩ := TCore.reps_open h2
  clear rKind sKind rValue sValue
  have RrData := Lib.hid rData; clear rData
  have SrData := Lib.hid sData; clear sData
  have RrKids := Lib.hid rKids; clear rKids
  have SrKids := Lib.hid sKids; clear sKids
  have HKK := Lib.hid HK; clear HK
  clear h h2
  obtain ⟨kx, hkx⟩ : ∃ k, Hid (x.fKind = k) := ⟨_, rfl⟩
  obtain ⟨ky, hky⟩ : ∃ k, Hid (y.fKind = k) := ⟨_, rfl⟩
  obtain ⟨vx, hvx⟩ : ∃ k, Hid (x.fValue = k) := ⟨_, rfl⟩
  obtain ⟨vy, hvy⟩ : ∃ k, Hid (y.fValue = k) := ⟨_, rfl⟩
  rw [hkx.out, hky.out, hvx.out, hvy.out]
  have H0 : Below w.heap.size w ((w.alloc (.cells #[.int .i64 kx, .int .i64 vx, v2, v3] 46)).alloc (.cells #[.int .i64 ky, .int .i64 vy, z2, z3] 46)) := (alloc_below w _).alloc (by simp) _
  have BX0 : Hid (Blk ((w.alloc (.cells #[.int .i64 kx, .int .i64 vx, v2, v3] 46)).alloc (.cells #[.int .i64 ky, .int .i64 vy, z2, z3] 46)) w.heap.size 46 [.int .i64 kx, .int .i64 vx, v2, v3]) := (Blk.new w _ [.int .i64 kx, .int .i64 vx, v2, v3]).alloc _
  have BY0 : Hid (Blk ((w.alloc (.cells #[.int .i64 kx, .int .i64 vx, v2, v3] 46)).alloc (.cells #[.int .i64 ky, .int .i64 vy, z2, z3] 46)) (w.heap.size + 1) 46 [.int .i64 ky, .int .i64 vy, z2, z3]) := by have h := Blk.new (w.alloc (.cells #[.int .i64 kx, .int .i64 vx, v2, v3] 46)) 46 [.int .i64 ky, .int .i64 vy, z2, z3]; simpa [Hid] using h
  by_cases h1 : kx = ky
  · subst h1
    by_cases h2 : vx = vy
    · subst h2
      go_enter Try.func38, Try.ntmps38
      go_wp2_with fail
      refine (equalInts_any x.fData y.fData _ _ _ (RrData.out.below H0) (SrData.out.below H0)).mono ?_
      rintro e w1 ⟨b, n, rfl, hb, hw1⟩
      have hb1 : Below ((w.alloc (.cells #[.int .i64 kx, .int .i64 vx, v2, v3] 46)).alloc (.cells #[.int .i64 kx, .int .i64 vx, z2, z3] 46)).heap.size ((w.alloc (.cells #[.int .i64 kx, .int .i64 vx, v2, v3] 46)).alloc (.cells #[.int .i64 kx, .int .i64 vx, z2, z3] 46)) w1 := by rw [hw1]; exact bdrew n
      clear hw1
      have H1 := bnext H0 hb1
      cases b
      · go_wp2_with fail
        go_ret
        refine ⟨_, rfl, cmp_no ?_, H1⟩
        rintro rfl
        have := hb.out
        simp at this
      · have BX1 : Hid (Blk w1 w.heap.size 46 [.int .i64 kx, .int .i64 vx, v2, v3]) := BX0.out.below hb1 BX0.out.lt
        have BY1 : Hid (Blk w1 (w.heap.size + 1) 46 [.int .i64 kx, .int .i64 vx, z2, z3]) := BY0.out.below hb1 BY0.out.lt
        have cx3 := BX1.out.cell 3
        have cy3 := BY1.out.cell 3
        simp only [List.getElem?_cons_zero, List.getElem?_cons_succ] at cx3 cy3
        have HD : Hid (x.fData = y.fData) := hb.out.1 (by first | trivial | rfl)
        go_wp2_with fail
        clear cx3 cy3
        refine (equalFunc_of x.fKids y.fKids HKK.out _ _ _ (RrKids.out.below H1) (SrKids.out.below H1)).mono ?_
        rintro e w2 ⟨b2, rfl, hk2, hb2⟩
        have H2 := bnext H1 hb2
        go_wp2_with fail
        go_ret
        refine ⟨_, rfl, Lib.hid ⟨fun h => ?_, fun h => ?_⟩, H2⟩
        · exact TCore.ext_of (hkx.out.trans hky.out.symm) (hvx.out.trans hvy.out.symm) HD.out (hk2.out.1 h)
        · exact hk2.out.2 (by subst h; rfl)
    · have hne : (vx == vy) = false := by simpa using h2
      have HN := Lib.hid h2; clear h2
      go_enter Try.func38, Try.ntmps38
      go_wp2_with fail
      go_ret
      refine ⟨_, rfl, cmp_no ?_, H0⟩
      rintro rfl
      exact HN.out (hvx.out.symm.trans hvy.out)
  · have hne : (kx == ky) = false := by simpa using h1
    have HN := Lib.hid h1; clear h1
    go_enter Try.func38, Try.ntmps38
    go_wp2_with fail
    go_ret
    refine ⟨_, rfl, cmp_no ?_, H0⟩
    rintro rfl
    exact HN.out (hkx.out.symm.trans hky.out)

theorem sameCore_any (x y : TCore) : SameCoreOk x y := by
  have key : ∀ (m : Nat) (x y : TCore), x.depth ≤ m → SameCoreOk x y := by
    intro m
    induction m with
    | zero => intro x y hx; exfalso; cases x; simp [TCore.depth] at hx
    | succ m ih => intro x y hx; exact sameCore_of x y fun k hk k' _ => ih k k' (by have := TCore.depth_kid hk; omega)
  exact key x.depth x y (Nat.le_refl _)

end Go.Proofs.Ytmcnnjelajgkjaa
