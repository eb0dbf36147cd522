/-
  Comparing lists of numbers and of strings: both programs' loops.
-/
import Derived.Test.YtmcnnjelajgkjaaRows
import Derived.Test.YtmcnnjelajgkjaaDat
import Derived.Test.YtmcnnjelajgkjaaPrInt64
import Derived.Test.YtmcnnjelajgkjaaPrString
namespace Go.Proofs.Ytmcnnjelajgkjaa
set_option linter.unusedVariables false
open Go.RowKit

theorem take_succ_same {α : Type} {xs ys : List α} {k : Nat} (h1 : k < xs.length) (h2 : k < ys.length) (hp : xs.take k = ys.take k) (he : xs[k] = ys[k]) : xs.take (k + 1) = ys.take (k + 1) := by
  rw [List.take_succ_eq_append_getElem h1, List.take_succ_eq_append_getElem h2, hp, he]
theorem bytes_ext {x y : ByteArray} (h : x.toList = y.toList) : x = y := by
  obtain ⟨⟨x⟩⟩ := x
  obtain ⟨⟨y⟩⟩ := y
  rw [ByteArray.toList_eq, ByteArray.toList_eq] at h
  simp at h
  rw [h]
/-- Comparing: p, by a call that only reads. -/
def CmpRet (w : World) (p : Prop) (e : Ending) (w' : World) : Prop := ∃ b n, e = .returned (.bool b) ∧ Hid (b = true ↔ p) ∧ w' = w.drewN n
theorem CmpRet.yes {w : World} {p : Prop} {n : Nat} (h : p) : CmpRet w p (.returned (.bool true)) (w.drewN n) := ⟨true, n, rfl, Lib.hid (by simp [h]), rfl⟩
theorem CmpRet.no {w : World} {p : Prop} {n : Nat} (h : ¬ p) : CmpRet w p (.returned (.bool false)) (w.drewN n) := ⟨false, n, rfl, Lib.hid (by simp [h]), rfl⟩
theorem CmpRet.yes0 {w : World} {p : Prop} (h : p) : CmpRet w p (.returned (.bool true)) w := CmpRet.yes (n := 0) h
theorem CmpRet.no0 {w : World} {p : Prop} (h : ¬ p) : CmpRet w p (.returned (.bool false)) w := CmpRet.no (n := 0) h

set_option maxHeartbeats 400000 in
theorem l00Same_any (xs ys : List Int) (v v' : Value) (w : World) (hr : Rep w (ints .i64 xs) v) (hr' : Rep w (ints .i64 ys) v') :
    Calls Try.prog 47 #[v, v'] w (CmpRet w (xs = ys)) := by
  have h' : Rep w (.sl 1 (xs.map fun z => [D.int .i64 z])) v := hr
  have h2' : Rep w (.sl 1 (ys.map fun z => [D.int .i64 z])) v' := hr'
  obtain ⟨a, len, cap, rfl, hmx, HL, HM, HC⟩ := h'.sl_open
  obtain ⟨a', len', cap', rfl, hmx', HL', HM', HC'⟩ := h2'.sl_open
  clear hr hr' h' h2' HM HM'
  by_cases hll : len = len'
  · subst hll
    go_enter Try.func47, Try.ntmps47
    go_wp2
    go_loopw [5] (fun i wr => ∃ (k n : Nat), k ≤ len ∧ i = .int .i64 k ∧ wr = w.drewN n ∧ Hid (xs.take k = ys.take k)) (fun i _ => len - (intOf i).toNat)
    case atStart => exact ⟨0, 0, Nat.zero_le _, rfl, rfl, Lib.hid (by simp)⟩
    case round =>
      obtain ⟨k, n, hk, rfl, rfl, hp⟩ := hrel
      by_cases hlt : k < len
      · obtain ⟨b, off, rfl, hcc⟩ := HC.out k hlt
        obtain ⟨b', off', rfl, hcc'⟩ := HC'.out k hlt
        have HKX : Hid (k < xs.length) := by rw [Hid, ← HL.out]; exact hlt
        have HKY : Hid (k < ys.length) := by rw [Hid, ← HL'.out]; exact hlt
        have hcell := (cell_Int64 hcc HKX.out).1
        have hcell' := (cell_Int64 hcc' HKY.out).1
        obtain ⟨x, hx⟩ : ∃ x, Hid (xs[k]'(HKX.out) = x) := ⟨_, rfl⟩
        obtain ⟨y, hy⟩ : ∃ y, Hid (ys[k]'(HKY.out) = y) := ⟨_, rfl⟩
        rw [hx.out] at hcell
        rw [hy.out] at hcell'
        clear hcc hcc'
        have hki : (k : Int) < (len : Int) := by omega
        by_cases hxy : x = y
        · subst hxy
          go_wp2_with fail
          go_quiet (fail)
          go_wp2
          go_roundw
          case rel => exact ⟨k + 1, n + nq, by omega, by go_num, rfl, Lib.hid (take_succ_same HKX.out HKY.out hp.out (hx.out.trans hy.out.symm))⟩
          case measure => simp [intOf]; omega
        · have hne : (x == y) = false := by simpa using hxy
          go_wp2_with fail
          go_quiet (fail)
          go_wp2
          go_ret
          rw [World.drewN_drewN]
          refine CmpRet.no ?_
          rintro rfl
          exact hxy (hx.out.symm.trans hy.out)
      · go_wp2
        go_ret
        refine CmpRet.yes ?_
        have := hp.out
        rwa [List.take_of_length_le (by have := HL.out; omega), List.take_of_length_le (by have := HL'.out; omega)] at this
  · go_enter Try.func47, Try.ntmps47
    go_wp2
    go_ret
    refine CmpRet.no0 ?_
    rintro rfl
    exact hll (HL.out.trans HL'.out.symm)

set_option maxHeartbeats 400000 in
theorem equalInts_any (xs ys : List Int) (v v' : Value) (w : World) (hr : Rep w (ints .i64 xs) v) (hr' : Rep w (ints .i64 ys) v') :
    Calls Try.prog 50 #[v, v'] w (CmpRet w (xs = ys)) := by
  have h' : Rep w (.sl 1 (xs.map fun z => [D.int .i64 z])) v := hr
  have h2' : Rep w (.sl 1 (ys.map fun z => [D.int .i64 z])) v' := hr'
  obtain ⟨a, len, cap, rfl, hmx, HL, HM, HC⟩ := h'.sl_open
  obtain ⟨a', len', cap', rfl, hmx', HL', HM', HC'⟩ := h2'.sl_open
  clear hr hr' h' h2' HM HM'
  by_cases hll : len = len'
  · subst hll
    go_enter Try.func50, Try.ntmps50
    go_wp2
    go_loopw [13] (fun i wr => ∃ (k n : Nat), k ≤ len ∧ i = .int .i64 k ∧ wr = w.drewN n ∧ Hid (xs.take k = ys.take k)) (fun i _ => len - (intOf i).toNat)
    case atStart => exact ⟨0, 0, Nat.zero_le _, rfl, rfl, Lib.hid (by simp)⟩
    case round =>
      obtain ⟨k, n, hk, rfl, rfl, hp⟩ := hrel
      by_cases hlt : k < len
      · obtain ⟨b, off, rfl, hcc⟩ := HC.out k hlt
        obtain ⟨b', off', rfl, hcc'⟩ := HC'.out k hlt
        have HKX : Hid (k < xs.length) := by rw [Hid, ← HL.out]; exact hlt
        have HKY : Hid (k < ys.length) := by rw [Hid, ← HL'.out]; exact hlt
        have hcell := (cell_Int64 hcc HKX.out).1
        have hcell' := (cell_Int64 hcc' HKY.out).1
        obtain ⟨x, hx⟩ : ∃ x, Hid (xs[k]'(HKX.out) = x) := ⟨_, rfl⟩
        obtain ⟨y, hy⟩ : ∃ y, Hid (ys[k]'(HKY.out) = y) := ⟨_, rfl⟩
        rw [hx.out] at hcell
        rw [hy.out] at hcell'
        clear hcc hcc'
        have hki : (k : Int) < (len : Int) := by omega
        by_cases hxy : x = y
        · subst hxy
          go_wp2_with fail
          go_quiet (fail)
          go_wp2
          go_roundw
          case rel => exact ⟨k + 1, n + nq, by omega, by go_num, rfl, Lib.hid (take_succ_same HKX.out HKY.out hp.out (hx.out.trans hy.out.symm))⟩
          case measure => simp [intOf]; omega
        · have hne : (x == y) = false := by simpa using hxy
          go_wp2_with fail
          go_quiet (fail)
          go_wp2
          go_ret
          rw [World.drewN_drewN]
          refine CmpRet.no ?_
          rintro rfl
          exact hxy (hx.out.symm.trans hy.out)
      · go_wp2
        go_ret
        refine CmpRet.yes ?_
        have := hp.out
        rwa [List.take_of_length_le (by have := HL.out; omega), List.take_of_length_le (by have := HL'.out; omega)] at this
  · go_enter Try.func50, Try.ntmps50
    go_wp2
    go_ret
    refine CmpRet.no0 ?_
    rintro rfl
    exact hll (HL.out.trans HL'.out.symm)

set_option maxHeartbeats 400000 in
theorem equalStrs_any (xs ys : List ByteArray) (v v' : Value) (w : World) (hr : Rep w (strs xs) v) (hr' : Rep w (strs ys) v') :
    Calls Try.prog 39 #[v, v'] w (CmpRet w (xs = ys)) := by
  have h' : Rep w (.sl 1 (xs.map fun s => [D.str s])) v := hr
  have h2' : Rep w (.sl 1 (ys.map fun s => [D.str s])) v' := hr'
  obtain ⟨a, len, cap, rfl, hmx, HL, HM, HC⟩ := h'.sl_open
  obtain ⟨a', len', cap', rfl, hmx', HL', HM', HC'⟩ := h2'.sl_open
  clear hr hr' h' h2' HM HM'
  by_cases hll : len = len'
  · subst hll
    go_enter Try.func39, Try.ntmps39
    go_wp2
    go_loopw [13] (fun i wr => ∃ (k n : Nat), k ≤ len ∧ i = .int .i64 k ∧ wr = w.drewN n ∧ Hid (xs.take k = ys.take k)) (fun i _ => len - (intOf i).toNat)
    case atStart => exact ⟨0, 0, Nat.zero_le _, rfl, rfl, Lib.hid (by simp)⟩
    case round =>
      obtain ⟨k, n, hk, rfl, rfl, hp⟩ := hrel
      by_cases hlt : k < len
      · obtain ⟨b, off, rfl, hcc⟩ := HC.out k hlt
        obtain ⟨b', off', rfl, hcc'⟩ := HC'.out k hlt
        have HKX : Hid (k < xs.length) := by rw [Hid, ← HL.out]; exact hlt
        have HKY : Hid (k < ys.length) := by rw [Hid, ← HL'.out]; exact hlt
        have hcell := (cell_String hcc HKX.out).1
        have hcell' := (cell_String hcc' HKY.out).1
        obtain ⟨x, hx⟩ : ∃ x, Hid (xs[k]'(HKX.out) = x) := ⟨_, rfl⟩
        obtain ⟨y, hy⟩ : ∃ y, Hid (ys[k]'(HKY.out) = y) := ⟨_, rfl⟩
        rw [hx.out] at hcell
        rw [hy.out] at hcell'
        clear hcc hcc'
        have hki : (k : Int) < (len : Int) := by omega
        by_cases hxy : x = y
        · subst hxy
          go_wp2_with fail
          go_quiet (fail)
          go_wp2
          go_roundw
          case rel => exact ⟨k + 1, n + nq, by omega, by go_num, rfl, Lib.hid (take_succ_same HKX.out HKY.out hp.out (hx.out.trans hy.out.symm))⟩
          case measure => simp [intOf]; omega
        · have hne : (x.toList == y.toList) = false := by
            rw [beq_eq_false_iff_ne]
            exact fun h => hxy (bytes_ext h)
          go_wp2_with fail
          go_quiet (fail)
          go_wp2
          go_ret
          rw [World.drewN_drewN]
          refine CmpRet.no ?_
          rintro rfl
          exact hxy (hx.out.symm.trans hy.out)
      · go_wp2
        go_ret
        refine CmpRet.yes ?_
        have := hp.out
        rwa [List.take_of_length_le (by have := HL.out; omega), List.take_of_length_le (by have := HL'.out; omega)] at this
  · go_enter Try.func39, Try.ntmps39
    go_wp2
    go_ret
    refine CmpRet.no0 ?_
    rintro rfl
    exact hll (HL.out.trans HL'.out.symm)

end Go.Proofs.Ytmcnnjelajgkjaa
