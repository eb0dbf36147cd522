/-
  The laws' heldStringS; eqStringS on equal data.
-/
import Derived.Test.YtmcnnjelajgkjaaDoorRows
import Derived.Test.YtmcnnjelajgkjaaDoorMarkStr
import Derived.Deep.RegionHeld3
namespace Go.Proofs.YtmcnnjelajgkjaaDoor
set_option linter.unusedVariables false
open Go.RowKit

theorem cellS {w : World} {xs : List ByteArray} {b off : Nat} (hcc : ∀ j (hj : j < xs.length), (((fun s => [D.str s]) : ByteArray → List D) xs[j]).length = 1 ∧ RepC w b (off + j * 1) (((fun s => [D.str s]) : ByteArray → List D) xs[j])) {k : Nat} (hk : k < xs.length) :
    w.cell? ⟨b, off + k, none⟩ = some (.string xs[k]) := by
  have h := (hcc k hk).2
  simp only [RepC, Rep, Nat.mul_one, and_true] at h
  obtain ⟨u, hu, rfl, hw⟩ := h
  exact hu

set_option maxRecDepth 4000 in
set_option maxHeartbeats 1000000 in
theorem heldStringS_any (n k : Nat) (v : Value) (w : World) (h : Rep w (strs (smarks k n)) v) (hk : k + n ≤ 1099511627776) :
    Calls Tryd.prog 8 #[v, .int .i64 k] w fun e w' => e = .returned (.int .i64 ((k + n : Nat) : Int)) ∧ Below w.heap.size w w' := by
  obtain ⟨a, len, cap, rfl, hmx, HL, HM, HC⟩ := Rep.sl_open (f := fun s => [D.str s]) h
  clear h HM
  have HN : Hid (len = n) := by rw [Hid, HL.out, smarks_length]
  obtain rfl := HN.out
  go_enter Tryd.func8, Tryd.ntmps8
  go_wp2_with fail
  go_loopw [1, 5] (fun kk i wr => ∃ (j : Nat), j ≤ len ∧ i = .int .i64 j ∧ kk = .int .i64 ((k + j : Nat) : Int) ∧ Below w.heap.size w wr) (fun _ i _ => len - (intOf i).toNat)
  case atStart => exact ⟨0, Nat.zero_le _, rfl, by simp, Below.refl _ _⟩
  case round =>
    obtain ⟨j, hj, rfl, rfl, hbel⟩ := hrel
    by_cases hlt : j < len
    · obtain ⟨b, off, rfl, hcc⟩ := HC.out j hlt
      have HKX : Hid (j < (smarks k len).length) := by rw [Hid, smarks_length]; exact hlt
      have hcell := Keeps.of_below hbel _ _ (cellS hcc HKX.out)
      have hx : (smarks k len)[j]'(HKX.out) = mtext (k + j) := by simp [smarks]
      rw [hx] at hcell
      clear hcc hx
      have hki : (j : Int) < (len : Int) := by omega
      have HW : Hid (∀ W, Below wr.heap.size wr W → W.cell? ⟨b, off + j, none⟩ = some (.string (mtext (k + j)))) := Lib.hid fun W hW => Keeps.of_below hW _ _ hcell
      have HT : Hid (∀ W, Calls Tryd.prog 10 #[.int .i64 ((k + j : Nat) : Int)] W fun e w' => e = .returned (.string (mtext (k + j))) ∧ Below W.heap.size W w') := Lib.hid fun W => markText_any (k + j) (by omega) W
      obtain ⟨m, hm⟩ : ∃ m, mtext (k + j) = m := ⟨_, rfl⟩
      rw [hm] at hcell HW HT
      clear hm
      go_wp2_with fail
      go_region_held3 (fun w' => w'.cell? ⟨b, off + j, none⟩ = some (.string m)) (first | exact HW.out _ HBa | exact HW.out _ (Below.refl _ _).drew)
        (first | (go_at_call 10; refine (HT.out _).mono ?_; rintro e wa ⟨rfl, hba⟩; have HBa := bnext (Below.refl _ wr).drew hba))
      have hbel1 := bnext hbel HBa
      go_wp2_with fail
      go_roundw
      case rel => exact ⟨j + 1, by omega, by go_num, by go_num, hbel1⟩
      case measure => simp [intOf]; omega
    · go_wp2_with fail
      go_ret
      obtain rfl : j = len := by omega
      exact ⟨rfl, hbel⟩

set_option maxRecDepth 4000 in
set_option maxHeartbeats 1000000 in
theorem eqStrS_any (xs : List ByteArray) : EqSl 6 (strs xs) := by
  intro v v' w h h2
  obtain ⟨a, len, cap, rfl, hmx, HL, HM, HC⟩ := Rep.sl_open (f := fun s => [D.str s]) h
  obtain ⟨a', len', cap', rfl, hmx', HL', HM', HC'⟩ := Rep.sl_open (f := fun s => [D.str s]) h2
  clear h h2
  obtain rfl : len = len' := HL.out.trans HL'.out.symm
  go_enter Tryd.func6, Tryd.ntmps6
  go_wp2
  go_loopw [5] (fun i wr => ∃ (k n : Nat), k ≤ len ∧ i = .int .i64 k ∧ wr = w.drewN n) (fun i _ => len - (intOf i).toNat)
  case atStart => exact ⟨0, 0, Nat.zero_le _, rfl, rfl⟩
  case round =>
    obtain ⟨k, n, hk, rfl, rfl⟩ := hrel
    by_cases hlt : k < len
    · obtain ⟨b, off, rfl, hcc⟩ := HC.out k hlt
      obtain ⟨b', off', rfl, hcc'⟩ := HC'.out k hlt
      have hkx : k < xs.length := by rw [← HL.out]; exact hlt
      have hcell := cellS hcc hkx
      have hcell' := cellS hcc' hkx
      generalize xs[k] = x at hcell hcell'
      clear hcc hcc' hkx
      have hki : (k : Int) < (len : Int) := by omega
      go_wp2_with fail
      go_quiet (fail)
      go_wp2
      go_roundw
      case rel => exact ⟨k + 1, n + nq, by omega, by go_num, rfl⟩
      case measure => simp [intOf]; omega
    · go_wp2
      go_ret
      exact ⟨rfl, bdrew n⟩
end Go.Proofs.YtmcnnjelajgkjaaDoor
