/-
  The laws' markText.
-/
import Derived.Test.YtmcnnjelajgkjaaDoorRows
import Derived.Test.YtmcnnjelajgkjaaDoorDat
import Derived.Laws.BytesArg
namespace Go.Proofs.YtmcnnjelajgkjaaDoor
set_option linter.unusedVariables false
open Go.RowKit

def mt (j : Nat) (acc : ByteArray) : ByteArray := if 0 < j then mt (j / 10) (strOfNums [48 + (j : Int) % 10] ++ acc) else acc
termination_by j
decreasing_by omega
theorem mt_pos {j : Nat} (h : 0 < j) (acc : ByteArray) : mt j acc = mt (j / 10) (strOfNums [48 + (j : Int) % 10] ++ acc) := by rw [mt, if_pos h]
theorem mt_zero (acc : ByteArray) : mt 0 acc = acc := by rw [mt, if_neg (by omega)]
/-- The text of a mark. -/
def mtext (k : Nat) : ByteArray := if k = 0 then ⟨#[109, 48]⟩ else ⟨#[109]⟩ ++ mt k ⟨#[]⟩
theorem mt_size : ∀ (n j : Nat) (acc : ByteArray), j ≤ n → (mt j acc).size ≤ acc.size + j
  | 0, j, acc, h => by obtain rfl : j = 0 := by omega
                       rw [mt_zero]; omega
  | n + 1, j, acc, h => by
    by_cases hj : 0 < j
    · rw [mt_pos hj]
      have := mt_size n (j / 10) (strOfNums [48 + (j : Int) % 10] ++ acc) (by omega)
      rw [ByteArray.size_append] at this
      have h1 : (strOfNums [48 + (j : Int) % 10]).size = 1 := rfl
      omega
    · obtain rfl : j = 0 := by omega
      rw [mt_zero]; omega
theorem mtext_size (k : Nat) : (mtext k).size ≤ k + 2 := by
  unfold mtext
  split
  · simp [ByteArray.size]
  · rw [ByteArray.size_append]
    have := mt_size k k ⟨#[]⟩ (Nat.le_refl _)
    have h1 : (⟨#[109]⟩ : ByteArray).size = 1 := rfl
    have h2 : (⟨#[]⟩ : ByteArray).size = 0 := rfl
    omega

set_option maxRecDepth 4000 in
set_option maxHeartbeats 400000 in
theorem markText_any (k : Nat) (hk : k ≤ 1099511627776) (w : World) :
    Calls Tryd.prog 10 #[.int .i64 k] w fun e w' => e = .returned (.string (mtext k)) ∧ Below w.heap.size w w' := by
  by_cases h0 : k = 0
  · subst h0
    go_enter Tryd.func10, Tryd.ntmps10
    go_wp2
    go_ret
    exact ⟨rfl, Below.refl _ _⟩
  · have hpos : ¬ ((k : Int) ≤ 0) := by omega
    have HT : Hid (mtext k = ⟨#[109]⟩ ++ mt k ⟨#[]⟩) := by rw [Hid, mtext, if_neg h0]
    go_enter Tryd.func10, Tryd.ntmps10
    go_wp2_with fail
    go_loopw [0, 3] (fun kk o wr => ∃ (j : Nat) (acc : ByteArray), kk = .int .i64 j ∧ o = .string acc ∧ acc.size + j ≤ k ∧ Hid (mt k ⟨#[]⟩ = mt j acc) ∧ Below w.heap.size w wr) (fun kk _ _ => (intOf kk).toNat)
    case atStart => exact ⟨k, _, rfl, rfl, by show 0 + k ≤ k; omega, Lib.hid rfl, Below.refl _ _⟩
    case round =>
      obtain ⟨j, acc, rfl, rfl, hs, hm, hbel⟩ := hrel
      by_cases hj : 0 < j
      · have hsz : (strOfNums [48 + (j : Int) % 10]).size = 1 := rfl
        have hcat : ¬ (9223372036854775807 < (strOfNums [48 + (j : Int) % 10]).size + acc.size) := by omega
        have happ : (strOfNums [48 + (j : Int) % 10] ++ acc).size + j / 10 ≤ k := by rw [ByteArray.size_append, hsz]; omega
        have HA := Lib.hid happ
        clear happ hsz
        have hcv := run_convert_bytes_arg (P := Tryd.prog) (wr.alloc (Obj.cells #[Value.int IntKind.u8 (48 + (j : Int) % 10)] 5)) 30 5 Tryd.underlying30 Tryd.underlying5 wr.heap.size 0 1 1 [48 + (j : Int) % 10] rfl
          (fun i hi => by
            obtain rfl : i = 0 := by omega
            exact (Blk.new wr 5 [Value.int IntKind.u8 (48 + (j : Int) % 10)]).cell 0) 9 Tryd.underlying9
        go_wp2_with fail
        go_roundw
        case rel => exact ⟨j / 10, _, by go_num, rfl, HA.out, Lib.hid (hm.out.trans (mt_pos hj acc)), bnext hbel (alloc_below wr _)⟩
        case measure => simp [intOf]; omega
      · have hcat : ¬ (9223372036854775807 < 1 + acc.size) := by omega
        go_wp2_with fail
        go_ret
        obtain rfl : j = 0 := by omega
        refine ⟨?_, hbel⟩
        rw [HT.out, hm.out, mt_zero]
        rfl
end Go.Proofs.YtmcnnjelajgkjaaDoor
