/-
  The laws' helpers over []int64: measuring, copying, comparing.
-/
import Derived.Test.YtmcnnjelajgkjaaRows
import Derived.Test.YtmcnnjelajgkjaaDat
namespace Go.Proofs.Ytmcnnjelajgkjaa
set_option linter.unusedVariables false
open Go.RowKit


theorem cell_Int64 {w : World} {xs : List Int} {b off : Nat} (hcc : ∀ j (hj : j < xs.length), (((fun z => [D.int .i64 z]) : Int → List D) xs[j]).length = 1 ∧ RepC w b (off + j * 1) (((fun z => [D.int .i64 z]) : Int → List D) xs[j])) {k : Nat} (hk : k < xs.length) :
    w.cell? ⟨b, off + k, none⟩ = some (.int .i64 xs[k]) ∧ (Lit.int .i64 xs[k]).wf = true := by
  have h := (hcc k hk).2
  simp only [RepC, Rep, Nat.mul_one, and_true] at h
  obtain ⟨u, hu, rfl, hw⟩ := h
  exact ⟨hu, hw⟩

set_option maxHeartbeats 400000 in
theorem szInt64S_any (xs : List Int) : SzSl 45 (ints .i64 xs) := by
  intro v left w h h0 h1
  have h' : Rep w (.sl 1 (xs.map fun z => [D.int .i64 z])) v := h
  obtain ⟨a, len, cap, rfl, hmx, HL, HM, HC⟩ := h'.sl_open
  have HT : Hid ((ints .i64 xs).wt = len) := by rw [Hid, wt_ints, HL.out]
  clear h h' HC HM
  by_cases h : left - len < 0
  · go_enter Try.func45, Try.ntmps45
    go_wp2
    go_ret
    exact ⟨_, rfl, .inl ⟨rfl, by rw [HT.out]; omega⟩, Below.refl _ _⟩
  · go_enter Try.func45, Try.ntmps45
    go_wp2
    go_ret
    exact ⟨_, rfl, .inr ⟨by rw [HT.out], by rw [HT.out]; omega⟩, Below.refl _ _⟩

theorem info_Int64 : (Try.prog.info? 2).map (fun i => (i.zero, i.size, i.bytes)) = some (some (.int .i64 0), 1, 8) := by kernel_rfl
theorem own_row_Int64 {w : World} : ∀ {xs : List Int}, (∀ x ∈ xs, (Lit.int .i64 x).wf = true) → OwnR w 1 (xs.map fun x => .int .i64 x) (xs.map fun z => [D.int .i64 z]) []
  | [], _ => ⟨rfl, rfl⟩
  | x :: xs, h => by
    simp only [List.map_cons, OwnR]
    exact ⟨[_], _, [], [], rfl, rfl, by simpa using OwnC.cons0 (own_int (h x (by simp))) (OwnC.nil0 w), own_row_Int64 fun y hy => h y (by simp [hy]), rfl⟩
theorem copy_step_Int64 {xs : List Int} {k : Nat} {cs : List Value} (hk : k < xs.length) (hl : cs.length = xs.length) (h : cs.take k = (xs.take k).map fun x => .int .i64 x) : (cs.set k (.int .i64 xs[k])).take (k + 1) = (xs.take (k + 1)).map fun x => .int .i64 x := by
  rw [List.take_succ_eq_append_getElem (by simpa [hl] using hk), List.take_succ_eq_append_getElem hk, List.map_append, List.take_set, List.set_eq_of_length_le (by simp; omega), h]
  simp
set_option maxRecDepth 4000 in
set_option maxHeartbeats 1000000 in
theorem toInt64S_any (xs : List Int) : ToSl 48 (ints .i64 xs) := by
  intro v w h hwt
  have h' : Rep w (.sl 1 (xs.map fun z => [D.int .i64 z])) v := h
  obtain ⟨a, len, cap, rfl, hmx, HL, HM, HC⟩ := h'.sl_open
  have hsz : len ≤ 1048576 := by
    have h3 : (ints .i64 xs).wt = xs.length + _ := wt_sl 1 (fun z => [D.int .i64 z]) xs
    rw [HL.out]; omega
  have HWF : Hid (∀ x ∈ xs, (Lit.int .i64 x).wf = true) := by
    intro x hx
    obtain ⟨i, hi, rfl⟩ := List.getElem_of_mem hx
    obtain ⟨b, off, -, hcc⟩ := HC.out i (by rw [HL.out]; exact hi)
    exact (cell_Int64 hcc hi).2
  clear h h' hmx hwt
  have hmk := make_row (P := Try.prog) Try.underlying35 info_Int64 len (by omega) (by omega)
  go_enter Try.func48, Try.ntmps48
  go_wp2_with fail
  clear hmk
  go_loopw [4] (fun i wr => ∃ (k : Nat) (cs : List Value), k ≤ len ∧ i = .int .i64 k ∧ Blk wr w.heap.size 2 cs ∧ Hid (cs.length = len) ∧ Hid (cs.take k = (xs.take k).map fun x => .int .i64 x) ∧ Below w.heap.size w wr) (fun i _ => len - (intOf i).toNat)
  case atStart => exact ⟨0, _, Nat.zero_le _, rfl, Blk.new w _ _, Lib.hid (by simp [zeroRow_length]), Lib.hid (by simp), alloc_below w _⟩
  case round =>
    obtain ⟨k, cs, hk, rfl, hb, hcl, hcs, hbel⟩ := hrel
    by_cases hlt : k < len
    · obtain ⟨b, off, rfl, hcc⟩ := HC.out k hlt
      have HKX : Hid (k < xs.length) := by rw [Hid, ← HL.out]; exact hlt
      have hcell := (cell_Int64 hcc HKX.out).1
      obtain ⟨x, hx⟩ : ∃ x, Hid (x = xs[k]'(HKX.out)) := ⟨_, rfl⟩
      rw [← hx.out] at hcell
      clear hcc
      have hcell' := Keeps.of_below hbel _ _ hcell
      clear hcell
      obtain ⟨u, hu⟩ : ∃ u, wr.cell? ⟨w.heap.size, k, none⟩ = some u := by rw [hb.cell, List.getElem?_eq_getElem (by rw [hcl.out]; exact hlt)]; exact ⟨_, rfl⟩
      have hfree := hb.free k
      go_wp2
      go_roundw
      case rel => exact ⟨k + 1, _, by omega, by go_num, hb.set k _, Lib.hid (by simpa using hcl.out), Lib.hid (by rw [hx.out]; exact copy_step_Int64 HKX.out (HL.out ▸ hcl.out) hcs.out), hbel.setCell (Nat.le_refl _) _⟩
      case measure => simp [intOf]; omega
    · go_wp2
      go_ret
      have hkl : k = xs.length := by have := HL.out; omega
      have h1 := hcs.out
      rw [hkl, List.take_length, List.take_of_length_le (by rw [hcl.out, HL.out]; exact Nat.le_refl _)] at h1
      subst h1
      exact ⟨_, _, _, [w.heap.size], rfl, Own.of_blk (rest := []) (by rw [List.append_nil]; exact hb) (own_row_Int64 HWF.out) (by rw [HL.out]; simp) (by simp [HL.out]) (by unfold maxLen; omega) (by simp [HL.out]), ⟨by simp, by simp⟩, hbel⟩

set_option maxRecDepth 4000 in
set_option maxHeartbeats 1000000 in
theorem eqInt64S_any (xs : List Int) : EqSl 52 (ints .i64 xs) := by
  intro v v' w h h2
  have h' : Rep w (.sl 1 (xs.map fun z => [D.int .i64 z])) v := h
  have h2' : Rep w (.sl 1 (xs.map fun z => [D.int .i64 z])) v' := h2
  obtain ⟨a, len, cap, rfl, hmx, HL, HM, HC⟩ := h'.sl_open
  obtain ⟨a', len', cap', rfl, hmx', HL', HM', HC'⟩ := h2'.sl_open
  clear h h2 h' h2'
  obtain rfl : len = len' := HL.out.trans HL'.out.symm
  go_enter Try.func52, Try.ntmps52
  go_wp2
  go_loopw [5] (fun i wr => ∃ (k n : Nat), k ≤ len ∧ i = .int .i64 k ∧ wr = w.drewN n) (fun i _ => len - (intOf i).toNat)
  case atStart => exact ⟨0, 0, Nat.zero_le _, rfl, rfl⟩
  case round =>
    obtain ⟨k, n, hk, rfl, rfl⟩ := hrel
    by_cases hlt : k < len
    · obtain ⟨b, off, rfl, hcc⟩ := HC.out k hlt
      obtain ⟨b', off', rfl, hcc'⟩ := HC'.out k hlt
      have hkx : k < xs.length := by rw [← HL.out]; exact hlt
      have hcell := (cell_Int64 hcc hkx).1
      have hcell' := (cell_Int64 hcc' hkx).1
      generalize xs[k] = x at hcell hcell'
      clear hcc hcc' hkx
      have hki : (k : Int) < (len : Int) := by omega
      go_wp2_with fail
      go_quiet (fail)
      go_wp2
      go_roundw
      case rel => exact ⟨k + 1, n + nq, by omega, by go_num, rfl⟩
      case measure => simp [intOf]; omega
    · go_wp2
      go_ret
      exact ⟨rfl, bdrew n⟩
end Go.Proofs.Ytmcnnjelajgkjaa
