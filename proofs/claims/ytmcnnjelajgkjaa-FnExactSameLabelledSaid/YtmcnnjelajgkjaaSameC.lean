/-
  spec.l06Same: comparing two terms through pointers; it only reads.
-/
import Derived.Test.YtmcnnjelajgkjaaRows
import Derived.Test.YtmcnnjelajgkjaaSameD
import Derived.Test.YtmcnnjelajgkjaaTCore
namespace Go.Proofs.Ytmcnnjelajgkjaa
set_option linter.unusedVariables false
open Go.RowKit

theorem TCore.ext_of {x y : TCore} (h1 : x.fKind = y.fKind) (h2 : x.fValue = y.fValue) (h3 : x.fData = y.fData) (h4 : x.fKids = y.fKids) : x = y := by
  cases x; cases y; simp_all [TCore.fKind, TCore.fValue, TCore.fData, TCore.fKids]

def SameOk (x y : TCore) : Prop := ∀ (b off b' off' : Nat) (v2 v3 z2 z3 : Value) (w : World),
  Reps w x.toD [.int .i64 x.fKind, .int .i64 x.fValue, v2, v3] → Reps w y.toD [.int .i64 y.fKind, .int .i64 y.fValue, z2, z3] →
  w.cell? ⟨b, off, none⟩ = some (.int .i64 x.fKind) → w.cell? ⟨b, off + 1, none⟩ = some (.int .i64 x.fValue) → w.cell? ⟨b, off + 2, none⟩ = some v2 → w.cell? ⟨b, off + 3, none⟩ = some v3 →
  w.cell? ⟨b', off', none⟩ = some (.int .i64 y.fKind) → w.cell? ⟨b', off' + 1, none⟩ = some (.int .i64 y.fValue) → w.cell? ⟨b', off' + 2, none⟩ = some z2 → w.cell? ⟨b', off' + 3, none⟩ = some z3 →
  Calls Try.prog 35 #[.pointer (some ⟨b, off, none⟩), .pointer (some ⟨b', off', none⟩)] w (CmpRet w (x = y))

set_option maxRecDepth 8000 in
set_option maxHeartbeats 1600000 in
theorem l06Same_of (x y : TCore) (H : ∀ k ∈ x.fKids, ∀ k' ∈ y.fKids, SameOk k k') : SameOk x y := by
  intro b off b' off' v2 v3 z2 z3 w h h2 c0 c1 c2 c3 d0 d1 d2 d3
  have HH := Lib.hid H; clear H
  obtain ⟨_, _, heq, rKind, rValue, rData, rKids⟩ := TCore.reps_open h
  simp only [List.cons.injEq, and_true, true_and] at heq
  obtain ⟨rfl, rfl⟩ := heq
  obtain ⟨_, _, heq, sKind, sValue, sData, sKids⟩ := TCore.reps_open h2
  simp only [List.cons.injEq, and_true, true_and] at heq
  obtain ⟨rfl, rfl⟩ := heq
  clear h h2 rKind rValue sKind sValue
  obtain ⟨kx, hkx⟩ : ∃ k, Hid (x.fKind = k) := ⟨_, rfl⟩
  obtain ⟨ky, hky⟩ : ∃ k, Hid (y.fKind = k) := ⟨_, rfl⟩
  obtain ⟨vx, hvx⟩ : ∃ k, Hid (x.fValue = k) := ⟨_, rfl⟩
  obtain ⟨vy, hvy⟩ : ∃ k, Hid (y.fValue = k) := ⟨_, rfl⟩
  rw [hkx.out] at c0; rw [hky.out] at d0; rw [hvx.out] at c1; rw [hvy.out] at d1
  have HDA := Lib.hid (l00Same_any x.fData y.fData v2 z2 w rData sData)
  obtain ⟨a, len, cap, rfl, hmx, HL, HM, HC⟩ := rKids.sl_open
  obtain ⟨a', len', cap', rfl, hmx', HL', HM', HC'⟩ := sKids.sl_open
  have RD := Lib.hid rData; have SD := Lib.hid sData
  clear rKids sKids rData sData HM HM'
  by_cases h1 : kx = ky
  · subst h1
    by_cases h2 : vx = vy
    · subst h2
      by_cases h3 : x.fData = y.fData
      · have HD : Hid (∀ n, Calls Try.prog 47 #[v2, z2] (w.drewN n) fun e w' => e = .returned (.bool true) ∧ ∃ m, w' = (w.drewN n).drewN m) := Lib.hid fun n =>
          (l00Same_any x.fData y.fData v2 z2 (w.drewN n) (RD.out.below (bdrew n)) (SD.out.below (bdrew n))).mono (by
            rintro e w1 ⟨b, m, rfl, hb, rfl⟩
            obtain rfl : b = true := hb.out.2 h3
            exact ⟨rfl, m, rfl⟩)
        have H3 := Lib.hid h3; clear h3
        by_cases h4 : len = len'
        · subst h4
          go_enter Try.func35, Try.ntmps35
          go_wp2_with fail
          go_quiet (first
            | (go_at_call 47; exact Calls.quiet_of (HD.out _)))
          go_wp2_with fail
          go_loopw [5] (fun i wr => ∃ (k n : Nat), k ≤ len ∧ i = .int .i64 k ∧ wr = w.drewN n ∧ Hid (x.fKids.take k = y.fKids.take k)) (fun i _ => len - (intOf i).toNat)
          case atStart => exact ⟨0, nq, Nat.zero_le _, rfl, rfl, Lib.hid (by simp)⟩
          case round =>
            obtain ⟨k, n, hk, rfl, hwr, hp⟩ := hrel
            have kw : Keeps w wr := by rw [hwr]; exact Keeps.of_below (bdrew n)
            have c3w := kw _ _ c3
            have d3w := kw _ _ d3
            have HW := Lib.hid hwr
            clear hwr kw
            by_cases hlt : k < len
            · obtain ⟨bb, oo, rfl, hcc⟩ := HC.out k hlt
              obtain ⟨bb', oo', rfl, hcc2⟩ := HC'.out k hlt
              have HKX : Hid (k < x.fKids.length) := by rw [Hid, ← HL.out]; exact hlt
              have HKY : Hid (k < y.fKids.length) := by rw [Hid, ← HL'.out]; exact hlt
              have HCC := Lib.hid (And.intro (hcc k HKX.out).2 (hcc2 k HKY.out).2)
              clear hcc hcc2
              have HS : Hid (∀ m, Calls Try.prog 35 #[.pointer (some ⟨bb, oo + k * 4, none⟩), .pointer (some ⟨bb', oo' + k * 4, none⟩)] (wr.drewN m) (CmpRet (w.drewN (n + m)) (x.fKids[k]'(HKX.out) = y.fKids[k]'(HKY.out)))) := Lib.hid fun m => by
                obtain ⟨vs, hvs, hc⟩ := HCC.out.1.vals
                obtain ⟨vs2, hvs2, hc2⟩ := HCC.out.2.vals
                obtain ⟨p2, p3, rfl, -⟩ := TCore.reps_open hvs
                obtain ⟨r2, r3, rfl, -⟩ := TCore.reps_open hvs2
                have kp := Keeps.of_below (bdrew (w := w) (n + m))
                rw [HW.out, World.drewN_drewN]
                exact HH.out _ (List.getElem_mem HKX.out) _ (List.getElem_mem HKY.out) bb (oo + k * 4) bb' (oo' + k * 4) p2 p3 r2 r3 (w.drewN (n + m)) (hvs.keep kp) (hvs2.keep kp)
                  (kp _ _ (hc 0 (by simp))) (kp _ _ (hc 1 (by simp))) (kp _ _ (hc 2 (by simp))) (kp _ _ (hc 3 (by simp)))
                  (kp _ _ (hc2 0 (by simp))) (kp _ _ (hc2 1 (by simp))) (kp _ _ (hc2 2 (by simp))) (kp _ _ (hc2 3 (by simp)))
              clear HCC
              have hki : (k : Int) < (len : Int) := by omega
              go_wp2_with fail
              go_still_tail 12, (by kernel_rfl)
              change wpList _ _ _ _ _ (wr.drewN 1)
              go_wp2_with fail
              refine (HS.out 1).mono ?_
              rintro e w1 ⟨b1, m1, rfl, hb1, rfl⟩
              cases b1
              · go_wp2_with fail
                go_ret
                refine CmpRet.no ?_
                intro he
                have hb := hb1.out
                simp only [Bool.false_eq_true, false_iff] at hb
                exact hb (by subst he; rfl)
              · go_wp2_with fail
                go_roundw
                case rel => exact ⟨k + 1, n + 1 + m1, by omega, by go_num, (by first | rfl | exact World.drewN_drewN _ _ _), Lib.hid (take_succ_same HKX.out HKY.out hp.out (hb1.out.1 (by first | trivial | rfl)))⟩
                case measure => simp [intOf]; omega
            · go_wp2_with fail
              go_ret
              rw [HW.out]
              refine CmpRet.yes ?_
              have hq := hp.out
              rw [List.take_of_length_le (by have := HL.out; omega), List.take_of_length_le (by have := HL'.out; omega)] at hq
              exact TCore.ext_of (hkx.out.trans hky.out.symm) (hvx.out.trans hvy.out.symm) H3.out hq
        · have hne : ((len : Int) != (len' : Int)) = true := by simp; omega
          have HN := Lib.hid h4; clear h4
          go_enter Try.func35, Try.ntmps35
          go_wp2_with fail
          go_quiet (first
            | (go_at_call 47; exact Calls.quiet_of (HD.out _)))
          go_wp2_with fail
          go_ret
          refine CmpRet.no ?_
          rintro rfl
          exact HN.out (HL.out.trans HL'.out.symm)
      · have HD : Hid (∀ n, Calls Try.prog 47 #[v2, z2] (w.drewN n) fun e w' => e = .returned (.bool false) ∧ ∃ m, w' = (w.drewN n).drewN m) := Lib.hid fun n =>
          (l00Same_any x.fData y.fData v2 z2 (w.drewN n) (RD.out.below (bdrew n)) (SD.out.below (bdrew n))).mono (by
            rintro e w1 ⟨b, m, rfl, hb, rfl⟩
            have : ¬ (b = true) := fun h => h3 (hb.out.1 h)
            obtain rfl : b = false := by simpa using this
            exact ⟨rfl, m, rfl⟩)
        have H3 := Lib.hid h3; clear h3
        go_enter Try.func35, Try.ntmps35
        go_wp2_with fail
        go_quiet (first
          | (go_at_call 47; exact Calls.quiet_of (HD.out _)))
        go_wp2_with fail
        go_ret
        refine CmpRet.no ?_
        rintro rfl
        exact H3.out rfl
    · have hne : (vx != vy) = true := by simpa using h2
      go_enter Try.func35, Try.ntmps35
      go_wp2_with fail
      go_quiet (fail)
      go_wp2
      go_ret
      refine CmpRet.no ?_
      rintro rfl
      exact h2 (hvx.out.symm.trans hvy.out)
  · have hne : (kx != ky) = true := by simpa using h1
    go_enter Try.func35, Try.ntmps35
    go_wp2_with fail
    go_quiet (fail)
    go_wp2
    go_ret
    refine CmpRet.no ?_
    rintro rfl
    exact h1 (hkx.out.symm.trans hky.out)
theorem l06Same_any (x y : TCore) : SameOk x y := by
  have key : ∀ (m : Nat) (x y : TCore), x.depth ≤ m → SameOk x y := by
    intro m
    induction m with
    | zero => intro x y hx; exfalso; cases x; simp [TCore.depth] at hx
    | succ m ih => intro x y hx; exact l06Same_of x y fun k hk k' _ => ih k k' (by have := TCore.depth_kid hk; omega)
  exact key x.depth x y (Nat.le_refl _)
end Go.Proofs.Ytmcnnjelajgkjaa
