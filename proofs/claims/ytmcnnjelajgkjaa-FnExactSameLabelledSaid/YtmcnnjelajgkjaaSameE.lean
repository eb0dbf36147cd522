/-
  impl.SameCore: comparing two terms by slices.EqualFunc.
-/
import Derived.Test.YtmcnnjelajgkjaaRows
import Derived.Test.YtmcnnjelajgkjaaSameC
import Derived.Deep.RegionHeld3
namespace Go.Proofs.Ytmcnnjelajgkjaa
set_option linter.unusedVariables false
open Go.RowKit

/-- Comparing: p, by a call that makes memory. -/
def CmpBel (w : World) (p : Prop) (e : Ending) (w' : World) : Prop := ∃ b, e = .returned (.bool b) ∧ Hid (b = true ↔ p) ∧ Below w.heap.size w w'
theorem CmpRet.bel {w : World} {p : Prop} {e : Ending} {w' : World} (h : CmpRet w p e w') : CmpBel w p e w' := by
  obtain ⟨b, n, rfl, hb, rfl⟩ := h
  exact ⟨b, rfl, hb, bdrew n⟩
theorem cmp_yes {p : Prop} (h : p) : Hid (true = true ↔ p) := Lib.hid (by simp [h])
theorem cmp_no {p : Prop} (h : ¬ p) : Hid (false = true ↔ p) := Lib.hid (by simp [h])

def SameCoreOk (x y : TCore) : Prop := ∀ (vs zs : List Value) (w : World), Reps w x.toD vs → Reps w y.toD zs →
  Calls Try.prog 38 #[.agg vs.toArray, .agg zs.toArray] w (CmpBel w (x = y))

set_option maxRecDepth 8000 in
set_option maxHeartbeats 1600000 in
theorem equalFunc_of (xs ys : List TCore) (H : ∀ k ∈ xs, ∀ k' ∈ ys, SameCoreOk k k') (v v' : Value) (w : World) (h : Rep w (.sl 4 (xs.map TCore.toD)) v) (h2 : Rep w (.sl 4 (ys.map TCore.toD)) v') :
    Calls Try.prog 51 #[v, v', .func (.func 38) #[] #[]] w (CmpBel w (xs = ys)) := by
  obtain ⟨a, len, cap, rfl, hmx, HL, HM, HC⟩ := h.sl_open
  obtain ⟨a', len', cap', rfl, hmx', HL', HM', HC'⟩ := h2.sl_open
  have HH := Lib.hid H; clear H
  clear h h2 HM HM'
  by_cases hll : len = len'
  · subst hll
    go_enter Try.func51, Try.ntmps51
    go_wp2_with fail
    go_loopw [17] (fun i wr => ∃ (k : Nat), k ≤ len ∧ i = .int .i64 k ∧ Hid (xs.take k = ys.take k) ∧ Below w.heap.size w wr) (fun i _ => len - (intOf i).toNat)
    case atStart => exact ⟨0, Nat.zero_le _, rfl, Lib.hid (by simp), Below.refl _ _⟩
    case round =>
      obtain ⟨k, hk, rfl, hp, hbel⟩ := hrel
      by_cases hlt : k < len
      · obtain ⟨b, off, rfl, hcc⟩ := HC.out k hlt
        obtain ⟨b', off', rfl, hcc2⟩ := HC'.out k hlt
        have HKX : Hid (k < xs.length) := by rw [Hid, ← HL.out]; exact hlt
        have HKY : Hid (k < ys.length) := by rw [Hid, ← HL'.out]; exact hlt
        obtain ⟨hlen, hrc⟩ := hcc k HKX.out
        obtain ⟨hlen2, hrc2⟩ := hcc2 k HKY.out
        obtain ⟨vs, hvs, hcells⟩ := hrc.vals
        obtain ⟨vs2, hvs2, hcells2⟩ := hrc2.vals
        have HV := Lib.hid hvs
        have HV2 := Lib.hid hvs2
        obtain ⟨i0, i1, a2, n2, c2, a3, n3, c3, rfl⟩ := TCore.shape hvs
        obtain ⟨j0, j1, a2', n2', c2', a3', n3', c3', rfl⟩ := TCore.shape hvs2
        have q0 := hcells 0 (by simp)
        have q1 := hcells 1 (by simp)
        have q2 := hcells 2 (by simp)
        have q3 := hcells 3 (by simp)
        simp only [List.getElem_cons_zero, List.getElem_cons_succ, Nat.add_zero] at q0 q1 q2 q3
        replace q0 := Keeps.of_below hbel _ _ q0
        replace q1 := Keeps.of_below hbel _ _ q1
        replace q2 := Keeps.of_below hbel _ _ q2
        replace q3 := Keeps.of_below hbel _ _ q3
        have p0 := hcells2 0 (by simp)
        have p1 := hcells2 1 (by simp)
        have p2 := hcells2 2 (by simp)
        have p3 := hcells2 3 (by simp)
        simp only [List.getElem_cons_zero, List.getElem_cons_succ, Nat.add_zero] at p0 p1 p2 p3
        replace p0 := Keeps.of_below hbel _ _ p0
        replace p1 := Keeps.of_below hbel _ _ p1
        replace p2 := Keeps.of_below hbel _ _ p2
        replace p3 := Keeps.of_below hbel _ _ p3
        have e0 := Keeps.of_below (alloc_below wr (Obj.cells #[.int .i64 i0, .int .i64 i1, .slice a2 n2 c2, .slice a3 n3 c3] 46)) _ _ p0
        have e1 := Keeps.of_below (alloc_below wr (Obj.cells #[.int .i64 i0, .int .i64 i1, .slice a2 n2 c2, .slice a3 n3 c3] 46)) _ _ p1
        have e2 := Keeps.of_below (alloc_below wr (Obj.cells #[.int .i64 i0, .int .i64 i1, .slice a2 n2 c2, .slice a3 n3 c3] 46)) _ _ p2
        have e3 := Keeps.of_below (alloc_below wr (Obj.cells #[.int .i64 i0, .int .i64 i1, .slice a2 n2 c2, .slice a3 n3 c3] 46)) _ _ p3
        have HB2 : Below w.heap.size w ((wr.alloc (Obj.cells #[.int .i64 i0, .int .i64 i1, .slice a2 n2 c2, .slice a3 n3 c3] 46)).alloc (Obj.cells #[.int .i64 j0, .int .i64 j1, .slice a2' n2' c2', .slice a3' n3' c3'] 46)) := (bnext hbel (alloc_below wr _)).alloc (by have := hbel.size; simp; omega) _
        clear hvs hcells hcc hrc hlen hvs2 hcells2 hcc2 hrc2 hlen2
        have hki : (k : Int) < (len : Int) := by omega
        go_wp2_with fail
        refine ((HH.out (xs[k]'(HKX.out)) (List.getElem_mem HKX.out) (ys[k]'(HKY.out)) (List.getElem_mem HKY.out)) [.int .i64 i0, .int .i64 i1, .slice a2 n2 c2, .slice a3 n3 c3] [.int .i64 j0, .int .i64 j1, .slice a2' n2' c2', .slice a3' n3' c3'] _ (HV.out.keep (Keeps.of_below HB2)) (HV2.out.keep (Keeps.of_below HB2))).mono ?_
        rintro e w1 ⟨b1, rfl, hb1, hbn⟩
        clear q0 q1 q2 q3 p0 p1 p2 p3 e0 e1 e2 e3
        have hbel1 := bnext HB2 hbn
        cases b1
        · go_wp2_with fail
          go_ret
          refine ⟨_, rfl, cmp_no ?_, hbel1⟩
          intro he
          have hb := hb1.out
          simp only [Bool.false_eq_true, false_iff] at hb
          exact hb (by subst he; rfl)
        · go_wp2_with fail
          go_roundw
          case rel => exact ⟨k + 1, by omega, by go_num, Lib.hid (take_succ_same HKX.out HKY.out hp.out (hb1.out.1 (by first | trivial | rfl))), hbel1⟩
          case measure => simp [intOf]; omega
      · go_wp2_with fail
        go_ret
        refine ⟨_, rfl, cmp_yes ?_, hbel⟩
        have := hp.out
        rwa [List.take_of_length_le (by have := HL.out; omega), List.take_of_length_le (by have := HL'.out; omega)] at this
  · go_enter Try.func51, Try.ntmps51
    go_wp2
    go_ret
    refine ⟨_, rfl, cmp_no ?_, Below.refl _ _⟩
    rintro rfl
    exact hll (HL.out.trans HL'.out.symm)
end Go.Proofs.Ytmcnnjelajgkjaa
