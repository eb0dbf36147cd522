/-
  The laws' helpers over []string: measuring, copying, comparing.
-/
import Derived.Test.YtmcnnjelajgkjaaRows
import Derived.Test.YtmcnnjelajgkjaaDat
namespace Go.Proofs.Ytmcnnjelajgkjaa
set_option linter.unusedVariables false
open Go.RowKit


theorem cell_String {w : World} {xs : List ByteArray} {b off : Nat} (hcc : ∀ j (hj : j < xs.length), (((fun s => [D.str s]) : ByteArray → List D) xs[j]).length = 1 ∧ RepC w b (off + j * 1) (((fun s => [D.str s]) : ByteArray → List D) xs[j])) {k : Nat} (hk : k < xs.length) :
    w.cell? ⟨b, off + k, none⟩ = some (.string xs[k]) ∧ xs[k].size ≤ maxLen := by
  have h := (hcc k hk).2
  simp only [RepC, Rep, Nat.mul_one, and_true] at h
  obtain ⟨u, hu, rfl, hw⟩ := h
  exact ⟨hu, hw⟩

set_option maxRecDepth 4000 in
set_option maxHeartbeats 1000000 in
theorem szStringS_any (xs : List ByteArray) : SzSl 34 (strs xs) := by
  intro v left w h h0 h1
  have h' : Rep w (.sl 1 (xs.map fun s => [D.str s])) v := h
  obtain ⟨a, len, cap, rfl, hmx, HL, HM, HC⟩ := h'.sl_open
  have HT : Hid ((strs xs).wt = len + (xs.map fun x => x.size).sum) := by unfold Hid strs; rw [wt_sl, HL.out]; simp [wts, D.wt]
  clear h h' HM
  by_cases h : left - len < 0
  · go_enter Try.func34, Try.ntmps34
    go_wp2
    go_ret
    exact ⟨_, rfl, .inl ⟨rfl, by rw [HT.out]; omega⟩, Below.refl _ _⟩
  · have hb0 : (0 : Int) ≤ left - len := by omega
    go_enter Try.func34, Try.ntmps34
    go_wp2_with fail
    go_loop [1, 5] (fun lv iv => ∃ (k : Nat) (m : Int), k ≤ len ∧ iv = .int .i64 k ∧ lv = .int .i64 m ∧ 0 ≤ m ∧ m ≤ 1048576 ∧ Hid (m = left - len - (((xs.take k).map fun x => x.size).sum : Nat))) (fun _ iv => len - (intOf iv).toNat)
    case atStart => exact ⟨0, _, Nat.zero_le _, rfl, rfl, hb0, by omega, Lib.hid (by simp)⟩
    case round =>
      obtain ⟨k, m, hk, rfl, rfl, hm0, hm1, hm⟩ := hrel
      by_cases hlt : k < len
      · obtain ⟨b, off, rfl, hcc⟩ := HC.out k hlt
        have HKX : Hid (k < xs.length) := by rw [Hid, ← HL.out]; exact hlt
        obtain ⟨hcell, hsz⟩ := cell_String hcc HKX.out
        have hs9 : ((xs[k]'(HKX.out)).size : Int) ≤ 9223372036854775807 := by unfold maxLen at hsz; omega
        obtain ⟨s, hs⟩ : ∃ s, Hid (s = xs[k]'(HKX.out)) := ⟨_, rfl⟩
        rw [← hs.out] at hcell hs9
        clear hcc hsz
        by_cases hq : m - (s.size : Int) < 0
        · go_wp2_with fail
          go_ret
          exact ⟨_, rfl, .inl ⟨rfl, by rw [HT.out]; have h1 := hm.out; have h2 := sum_take_le (fun x : ByteArray => x.size) HKX.out; rw [hs.out] at hq; omega⟩, Below.refl _ _⟩
        · obtain ⟨m2, e2⟩ : ∃ m2, m - (s.size : Int) = m2 := ⟨_, rfl⟩
          have p2 : 0 ≤ m2 := by omega
          have p2' : m2 ≤ 1048576 := by omega
          have E2 : Hid (m - ((xs[k]'(HKX.out)).size : Int) = m2) := by rw [← hs.out]; exact e2
          clear hq
          go_wp2_with fail
          go_round
          case rel => exact ⟨k + 1, m2, by omega, by go_num, rfl, p2, p2', Lib.hid (by have h1 := hm.out; have h2 := E2.out; have h3 := sum_take_succ (fun x : ByteArray => x.size) HKX.out; omega)⟩
          case measure => simp [intOf]; omega
      · go_wp2_with fail
        go_ret
        have hkl : k = xs.length := by have := HL.out; omega
        have h1 := hm.out
        rw [hkl, List.take_length] at h1
        exact ⟨_, rfl, .inr ⟨by rw [HT.out]; omega, by rw [HT.out]; omega⟩, Below.refl _ _⟩

theorem info_String : (Try.prog.info? 9).map (fun i => (i.zero, i.size, i.bytes)) = some (some (.string ⟨#[]⟩), 1, 16) := by kernel_rfl
theorem own_row_String {w : World} : ∀ {xs : List ByteArray}, (∀ x ∈ xs, x.size ≤ maxLen) → OwnR w 1 (xs.map fun x => .string x) (xs.map fun s => [D.str s]) []
  | [], _ => ⟨rfl, rfl⟩
  | x :: xs, h => by
    simp only [List.map_cons, OwnR]
    exact ⟨[_], _, [], [], rfl, rfl, by simpa using OwnC.cons0 (own_str (h x (by simp))) (OwnC.nil0 w), own_row_String fun y hy => h y (by simp [hy]), rfl⟩
theorem copy_step_String {xs : List ByteArray} {k : Nat} {cs : List Value} (hk : k < xs.length) (hl : cs.length = xs.length) (h : cs.take k = (xs.take k).map fun x => .string x) : (cs.set k (.string xs[k])).take (k + 1) = (xs.take (k + 1)).map fun x => .string x := by
  rw [List.take_succ_eq_append_getElem (by simpa [hl] using hk), List.take_succ_eq_append_getElem hk, List.map_append, List.take_set, List.set_eq_of_length_le (by simp; omega), h]
  simp
set_option maxRecDepth 4000 in
set_option maxHeartbeats 1000000 in
theorem toStringS_any (xs : List ByteArray) : ToSl 37 (strs xs) := by
  intro v w h hwt
  have h' : Rep w (.sl 1 (xs.map fun s => [D.str s])) v := h
  obtain ⟨a, len, cap, rfl, hmx, HL, HM, HC⟩ := h'.sl_open
  have hsz : len ≤ 1048576 := by
    have h3 : (strs xs).wt = xs.length + _ := wt_sl 1 (fun s => [D.str s]) xs
    rw [HL.out]; omega
  have HWF : Hid (∀ x ∈ xs, x.size ≤ maxLen) := by
    intro x hx
    obtain ⟨i, hi, rfl⟩ := List.getElem_of_mem hx
    obtain ⟨b, off, -, hcc⟩ := HC.out i (by rw [HL.out]; exact hi)
    exact (cell_String hcc hi).2
  clear h h' hmx hwt
  have hmk := make_row (P := Try.prog) Try.underlying39 info_String len (by omega) (by omega)
  go_enter Try.func37, Try.ntmps37
  go_wp2_with fail
  clear hmk
  go_loopw [4] (fun i wr => ∃ (k : Nat) (cs : List Value), k ≤ len ∧ i = .int .i64 k ∧ Blk wr w.heap.size 9 cs ∧ Hid (cs.length = len) ∧ Hid (cs.take k = (xs.take k).map fun x => .string x) ∧ Below w.heap.size w wr) (fun i _ => len - (intOf i).toNat)
  case atStart => exact ⟨0, _, Nat.zero_le _, rfl, Blk.new w _ _, Lib.hid (by simp [zeroRow_length]), Lib.hid (by simp), alloc_below w _⟩
  case round =>
    obtain ⟨k, cs, hk, rfl, hb, hcl, hcs, hbel⟩ := hrel
    by_cases hlt : k < len
    · obtain ⟨b, off, rfl, hcc⟩ := HC.out k hlt
      have HKX : Hid (k < xs.length) := by rw [Hid, ← HL.out]; exact hlt
      have hcell := (cell_String hcc HKX.out).1
      obtain ⟨x, hx⟩ : ∃ x, Hid (x = xs[k]'(HKX.out)) := ⟨_, rfl⟩
      rw [← hx.out] at hcell
      clear hcc
      have hcell' := Keeps.of_below hbel _ _ hcell
      clear hcell
      obtain ⟨u, hu⟩ : ∃ u, wr.cell? ⟨w.heap.size, k, none⟩ = some u := by rw [hb.cell, List.getElem?_eq_getElem (by rw [hcl.out]; exact hlt)]; exact ⟨_, rfl⟩
      have hfree := hb.free k
      go_wp2
      go_roundw
      case rel => exact ⟨k + 1, _, by omega, by go_num, hb.set k _, Lib.hid (by simpa using hcl.out), Lib.hid (by rw [hx.out]; exact copy_step_String HKX.out (HL.out ▸ hcl.out) hcs.out), hbel.setCell (Nat.le_refl _) _⟩
      case measure => simp [intOf]; omega
    · go_wp2
      go_ret
      have hkl : k = xs.length := by have := HL.out; omega
      have h1 := hcs.out
      rw [hkl, List.take_length, List.take_of_length_le (by rw [hcl.out, HL.out]; exact Nat.le_refl _)] at h1
      subst h1
      exact ⟨_, _, _, [w.heap.size], rfl, Own.of_blk (rest := []) (by rw [List.append_nil]; exact hb) (own_row_String HWF.out) (by rw [HL.out]; simp) (by simp [HL.out]) (by unfold maxLen; omega) (by simp [HL.out]), ⟨by simp, by simp⟩, hbel⟩

set_option maxRecDepth 4000 in
set_option maxHeartbeats 1000000 in
theorem eqStringS_any (xs : List ByteArray) : EqSl 41 (strs xs) := by
  intro v v' w h h2
  have h' : Rep w (.sl 1 (xs.map fun s => [D.str s])) v := h
  have h2' : Rep w (.sl 1 (xs.map fun s => [D.str s])) v' := h2
  obtain ⟨a, len, cap, rfl, hmx, HL, HM, HC⟩ := h'.sl_open
  obtain ⟨a', len', cap', rfl, hmx', HL', HM', HC'⟩ := h2'.sl_open
  clear h h2 h' h2'
  obtain rfl : len = len' := HL.out.trans HL'.out.symm
  go_enter Try.func41, Try.ntmps41
  go_wp2
  go_loopw [5] (fun i wr => ∃ (k n : Nat), k ≤ len ∧ i = .int .i64 k ∧ wr = w.drewN n) (fun i _ => len - (intOf i).toNat)
  case atStart => exact ⟨0, 0, Nat.zero_le _, rfl, rfl⟩
  case round =>
    obtain ⟨k, n, hk, rfl, rfl⟩ := hrel
    by_cases hlt : k < len
    · obtain ⟨b, off, rfl, hcc⟩ := HC.out k hlt
      obtain ⟨b', off', rfl, hcc'⟩ := HC'.out k hlt
      have hkx : k < xs.length := by rw [← HL.out]; exact hlt
      have hcell := (cell_String hcc hkx).1
      have hcell' := (cell_String hcc' hkx).1
      generalize xs[k] = x at hcell hcell'
      clear hcc hcc' hkx
      have hki : (k : Int) < (len : Int) := by omega
      go_wp2_with fail
      go_quiet (fail)
      go_wp2
      go_roundw
      case rel => exact ⟨k + 1, n + nq, by omega, by go_num, rfl⟩
      case measure => simp [intOf]; omega
    · go_wp2
      go_ret
      exact ⟨rfl, bdrew n⟩
end Go.Proofs.Ytmcnnjelajgkjaa
