/-
  Both SameLabelled.
-/
import Derived.Test.YtmcnnjelajgkjaaRows
import Derived.Test.YtmcnnjelajgkjaaSameF
namespace Go.Proofs.Ytmcnnjelajgkjaa
set_option linter.unusedVariables false
open Go.RowKit

theorem TLabelled.ext_of {x y : TLabelled} (h1 : x.fTerm = y.fTerm) (h2 : x.fLabels = y.fLabels) : x = y := by
  cases x; cases y; simp_all

set_option maxRecDepth 8000 in
set_option maxHeartbeats 1600000 in
theorem implSame_any (x y : TLabelled) (vs zs : List Value) (w : World) (h : Reps w x.toD vs) (h2 : Reps w y.toD zs) :
    Calls Try.prog 23 #[.agg vs.toArray, .agg zs.toArray] w (CmpBel w (x = y)) := by
  obtain ⟨v0, v1, v2, v3, v4, rfl, rTerm, rLabels⟩ := TLabelled.reps_open h
  obtain ⟨z0, z1, z2, z3, z4, rfl, sTerm, sLabels⟩ := TLabelled.reps_open h2
  have RrTerm := Lib.hid rTerm; clear rTerm
  have SrTerm := Lib.hid sTerm; clear sTerm
  have RrLabels := Lib.hid rLabels; clear rLabels
  have SrLabels := Lib.hid sLabels; clear sLabels
  clear h h2
  have H0 : Below w.heap.size w ((w.alloc (.cells #[v0, v1, v2, v3, v4] 48)).alloc (.cells #[z0, z1, z2, z3, z4] 48)) := (alloc_below w _).alloc (by simp) _
  have BX0 : Hid (Blk ((w.alloc (.cells #[v0, v1, v2, v3, v4] 48)).alloc (.cells #[z0, z1, z2, z3, z4] 48)) w.heap.size 48 [v0, v1, v2, v3, v4]) := (Blk.new w _ [v0, v1, v2, v3, v4]).alloc _
  have BY0 : Hid (Blk ((w.alloc (.cells #[v0, v1, v2, v3, v4] 48)).alloc (.cells #[z0, z1, z2, z3, z4] 48)) (w.heap.size + 1) 48 [z0, z1, z2, z3, z4]) := by have h := Blk.new (w.alloc (.cells #[v0, v1, v2, v3, v4] 48)) 48 [z0, z1, z2, z3, z4]; simpa [Hid] using h
  go_enter Try.func23, Try.ntmps23
  go_wp2_with fail
  refine (sameCore_any x.fTerm y.fTerm [v0, v1, v2, v3] [z0, z1, z2, z3] _ (RrTerm.out.keep (Keeps.of_below H0)) (SrTerm.out.keep (Keeps.of_below H0))).mono ?_
  rintro e w1 ⟨b, rfl, hb, hb1⟩
  have H1 := bnext H0 hb1
  cases b
  · go_wp2_with fail
    go_ret
    refine ⟨_, rfl, cmp_no ?_, H1⟩
    rintro rfl
    have := hb.out
    simp at this
  · have BX1 : Hid (Blk w1 w.heap.size 48 [v0, v1, v2, v3, v4]) := BX0.out.below hb1 BX0.out.lt
    have BY1 : Hid (Blk w1 (w.heap.size + 1) 48 [z0, z1, z2, z3, z4]) := BY0.out.below hb1 BY0.out.lt
    have cx4 := BX1.out.cell 4
    have cy4 := BY1.out.cell 4
    simp only [List.getElem?_cons_zero, List.getElem?_cons_succ] at cx4 cy4
    have HD : Hid (x.fTerm = y.fTerm) := hb.out.1 (by first | trivial | rfl)
    go_wp2_with fail
    clear cx4 cy4
    refine (equalStrs_any x.fLabels y.fLabels _ _ _ (RrLabels.out.below H1) (SrLabels.out.below H1)).mono ?_
    rintro e w2 ⟨b2, n2, rfl, hk2, hw2⟩
    have H2 : Below w.heap.size w w2 := by rw [hw2]; exact H1.trans ((bdrew n2).mono H1.size)
    clear hw2
    go_wp2_with fail
    go_ret
    refine ⟨_, rfl, Lib.hid ⟨fun h => ?_, fun h => ?_⟩, H2⟩
    · exact TLabelled.ext_of HD.out (hk2.out.1 h)
    · exact hk2.out.2 (by subst h; rfl)

set_option maxRecDepth 8000 in
set_option maxHeartbeats 1600000 in
theorem specSame_any (x y : TLabelled) (vs zs : List Value) (w : World) (h : Reps w x.toD vs) (h2 : Reps w y.toD zs) :
    Calls Try.prog 21 #[.agg vs.toArray, .agg zs.toArray] w (CmpBel w (x = y)) := by
  obtain ⟨v0, v1, v2, v3, v4, rfl, rTerm, rLabels⟩ := TLabelled.reps_open h
  obtain ⟨z0, z1, z2, z3, z4, rfl, sTerm, sLabels⟩ := TLabelled.reps_open h2
  obtain ⟨a, len, cap, rfl, hmx, HL, HM, HC⟩ := Rep.sl_open (f := fun s => [D.str s]) rLabels
  obtain ⟨a', len', cap', rfl, hmx', HL', HM', HC'⟩ := Rep.sl_open (f := fun s => [D.str s]) sLabels
  clear HM HM' rLabels sLabels
  have HS : Hid (∀ W, Below w.heap.size w W → Blk W w.heap.size 48 [v0, v1, v2, v3, .slice a len cap] → Blk W (w.heap.size + 1) 48 [z0, z1, z2, z3, .slice a' len' cap'] →
      Calls Try.prog 35 #[.pointer (some ⟨w.heap.size, 0, none⟩), .pointer (some ⟨w.heap.size + 1, 0, none⟩)] W (CmpRet W (x.fTerm = y.fTerm))) := Lib.hid fun W hW bx by' => by
    have r1 := rTerm.keep (Keeps.of_below hW)
    have r2 := sTerm.keep (Keeps.of_below hW)
    obtain ⟨p2, p3, hp, -⟩ := TCore.reps_open r1
    obtain ⟨q2, q3, hq, -⟩ := TCore.reps_open r2
    simp only [List.cons.injEq, and_true] at hp hq
    obtain ⟨rfl, rfl, rfl, rfl⟩ := hp
    obtain ⟨rfl, rfl, rfl, rfl⟩ := hq
    exact l06Same_any x.fTerm y.fTerm w.heap.size 0 (w.heap.size + 1) 0 _ _ _ _ W r1 r2 (bx.cell 0) (bx.cell 1) (bx.cell 2) (bx.cell 3) (by'.cell 0) (by'.cell 1) (by'.cell 2) (by'.cell 3)
  clear h h2 rTerm sTerm
  have H0 : Below w.heap.size w ((w.alloc (.cells #[v0, v1, v2, v3, .slice a len cap] 48)).alloc (.cells #[z0, z1, z2, z3, .slice a' len' cap'] 48)) := (alloc_below w _).alloc (by simp) _
  have BX0 : Hid (Blk ((w.alloc (.cells #[v0, v1, v2, v3, .slice a len cap] 48)).alloc (.cells #[z0, z1, z2, z3, .slice a' len' cap'] 48)) w.heap.size 48 [v0, v1, v2, v3, .slice a len cap]) := (Blk.new w _ [v0, v1, v2, v3, .slice a len cap]).alloc _
  have BY0 : Hid (Blk ((w.alloc (.cells #[v0, v1, v2, v3, .slice a len cap] 48)).alloc (.cells #[z0, z1, z2, z3, .slice a' len' cap'] 48)) (w.heap.size + 1) 48 [z0, z1, z2, z3, .slice a' len' cap']) := by have h := Blk.new (w.alloc (.cells #[v0, v1, v2, v3, .slice a len cap] 48)) 48 [z0, z1, z2, z3, .slice a' len' cap']; simpa [Hid] using h
  by_cases hll : len = len'
  · subst hll
    go_enter Try.func21, Try.ntmps21
    go_wp2_with fail
    refine (HS.out _ H0 BX0.out BY0.out).mono ?_
    rintro e w1 ⟨b, n1, rfl, hb, hw1⟩
    have hb1 : Below ((w.alloc (.cells #[v0, v1, v2, v3, .slice a len cap] 48)).alloc (.cells #[z0, z1, z2, z3, .slice a' len cap'] 48)).heap.size ((w.alloc (.cells #[v0, v1, v2, v3, .slice a len cap] 48)).alloc (.cells #[z0, z1, z2, z3, .slice a' len cap'] 48)) w1 := by rw [hw1]; exact bdrew n1
    clear hw1
    have H1 := bnext H0 hb1
    have BX1 : Hid (Blk w1 w.heap.size 48 [v0, v1, v2, v3, .slice a len cap]) := BX0.out.below hb1 BX0.out.lt
    have BY1 : Hid (Blk w1 (w.heap.size + 1) 48 [z0, z1, z2, z3, .slice a' len cap']) := BY0.out.below hb1 BY0.out.lt
    have cx4 := BX1.out.cell 4
    have cy4 := BY1.out.cell 4
    simp only [List.getElem?_cons_zero, List.getElem?_cons_succ] at cx4 cy4
    cases b
    · go_wp2_with fail
      go_ret
      refine ⟨_, rfl, cmp_no ?_, H1⟩
      rintro rfl
      have := hb.out
      simp at this
    · have HD : Hid (x.fTerm = y.fTerm) := hb.out.1 (by first | trivial | rfl)
      go_wp2_with fail
      go_loopw [5] (fun i wr => ∃ (k n : Nat), k ≤ len ∧ i = .int .i64 k ∧ wr = w1.drewN n ∧ Hid (x.fLabels.take k = y.fLabels.take k)) (fun i _ => len - (intOf i).toNat)
      case atStart => exact ⟨0, 0, Nat.zero_le _, rfl, rfl, Lib.hid (by simp)⟩
      case round =>
        obtain ⟨k, n, hk, rfl, hwr, hp⟩ := hrel
        have kw : Keeps w1 wr := by rw [hwr]; exact Keeps.of_below (bdrew n)
        have kx := kw _ _ cx4
        have ky := kw _ _ cy4
        have kw2 : Keeps w wr := by rw [hwr]; exact Keeps.of_below (H1.trans ((bdrew n).mono H1.size))
        have KW := Lib.hid kw2
        have HW := Lib.hid hwr
        clear hwr kw kw2
        by_cases hlt : k < len
        · obtain ⟨b, off, rfl, hcc⟩ := HC.out k hlt
          obtain ⟨b', off', rfl, hcc'⟩ := HC'.out k hlt
          have HKX : Hid (k < x.fLabels.length) := by rw [Hid, ← HL.out]; exact hlt
          have HKY : Hid (k < y.fLabels.length) := by rw [Hid, ← HL'.out]; exact hlt
          have hcell := KW.out _ _ (cell_String hcc HKX.out).1
          have hcell' := KW.out _ _ (cell_String hcc' HKY.out).1
          obtain ⟨s, hs⟩ : ∃ s, Hid (x.fLabels[k]'(HKX.out) = s) := ⟨_, rfl⟩
          obtain ⟨t, ht⟩ : ∃ t, Hid (y.fLabels[k]'(HKY.out) = t) := ⟨_, rfl⟩
          rw [hs.out] at hcell
          rw [ht.out] at hcell'
          clear hcc hcc'
          have hki : (k : Int) < (len : Int) := by omega
          by_cases hxy : s = t
          · subst hxy
            go_wp2_with fail
            go_quiet (fail)
            go_wp2
            go_roundw
            case rel => exact ⟨k + 1, n + nq, by omega, by go_num, by rw [HW.out, World.drewN_drewN], Lib.hid (take_succ_same HKX.out HKY.out hp.out (hs.out.trans ht.out.symm))⟩
            case measure => simp [intOf]; omega
          · have hne : (s.toList == t.toList) = false := by
              rw [beq_eq_false_iff_ne]
              exact fun h => hxy (bytes_ext h)
            have HN := Lib.hid hxy; clear hxy
            go_wp2_with fail
            go_quiet (fail)
            go_wp2
            go_ret
            refine ⟨_, rfl, cmp_no ?_, ?_⟩
            · rintro rfl
              exact HN.out (hs.out.symm.trans ht.out)
            · rw [HW.out, World.drewN_drewN]; exact H1.trans ((bdrew _).mono H1.size)
        · go_wp2_with fail
          go_ret
          refine ⟨_, rfl, cmp_yes ?_, ?_⟩
          · have hq := hp.out
            rw [List.take_of_length_le (by have := HL.out; omega), List.take_of_length_le (by have := HL'.out; omega)] at hq
            exact TLabelled.ext_of HD.out hq
          · rw [HW.out]; exact H1.trans ((bdrew _).mono H1.size)
  · have hne : ((len : Int) != (len' : Int)) = true := by simp; omega
    have HN := Lib.hid hll; clear hll
    go_enter Try.func21, Try.ntmps21
    go_wp2_with fail
    refine (HS.out _ H0 BX0.out BY0.out).mono ?_
    rintro e w1 ⟨b, n1, rfl, hb, hw1⟩
    have hb1 : Below ((w.alloc (.cells #[v0, v1, v2, v3, .slice a len cap] 48)).alloc (.cells #[z0, z1, z2, z3, .slice a' len' cap'] 48)).heap.size ((w.alloc (.cells #[v0, v1, v2, v3, .slice a len cap] 48)).alloc (.cells #[z0, z1, z2, z3, .slice a' len' cap'] 48)) w1 := by rw [hw1]; exact bdrew n1
    clear hw1
    have H1 := bnext H0 hb1
    have BX1 : Hid (Blk w1 w.heap.size 48 [v0, v1, v2, v3, .slice a len cap]) := BX0.out.below hb1 BX0.out.lt
    have BY1 : Hid (Blk w1 (w.heap.size + 1) 48 [z0, z1, z2, z3, .slice a' len' cap']) := BY0.out.below hb1 BY0.out.lt
    have cx4 := BX1.out.cell 4
    have cy4 := BY1.out.cell 4
    simp only [List.getElem?_cons_zero, List.getElem?_cons_succ] at cx4 cy4
    cases b <;>
    · go_wp2_with fail
      go_ret
      refine ⟨_, rfl, cmp_no ?_, H1⟩
      rintro rfl
      exact HN.out (HL.out.trans HL'.out.symm)

end Go.Proofs.Ytmcnnjelajgkjaa
