/-
  Frames: opening one. Both programs compute the plain function.
-/
import Derived.Test.YtmcnnjelajgkjaaRows
import Derived.Test.YtmcnnjelajgkjaaDec
namespace Go.Proofs.Ytmcnnjelajgkjaa
set_option linter.unusedVariables false
open Go.RowKit

set_option maxHeartbeats 400000 in
/-- 'slices.Equal' of bytes. -/
theorem equalBytes_any (xs ys : List Int) (v v' : Value) (w : World) (hr : Rep w (ints .u8 xs) v) (hr' : Rep w (ints .u8 ys) v') :
    Calls Try.prog 44 #[v, v'] w fun e w' => e = .returned (.bool (decide (xs = ys))) ∧ ∃ n, w' = w.drewN n := by
  obtain ⟨a, len, cap, rfl, hmx, HL, HM, HC⟩ := hr.ints_open
  obtain ⟨a', len', cap', rfl, hmx', HL', HM', HC'⟩ := hr'.ints_open
  clear hr hr'
  by_cases hll : len = len'
  · subst hll
    go_enter Try.func44, Try.ntmps44
    go_wp2
    go_loopw [13] (fun i wr => ∃ (k n : Nat), k ≤ len ∧ i = .int .i64 k ∧ wr = w.drewN n ∧ Hid (xs.take k = ys.take k)) (fun i _ => len - (intOf i).toNat)
    case atStart => exact ⟨0, 0, Nat.zero_le _, rfl, rfl, Lib.hid (by simp)⟩
    case round =>
      obtain ⟨k, n, hk, rfl, rfl, hp⟩ := hrel
      by_cases hlt : k < len
      · obtain ⟨b, off, rfl, hcc⟩ := HC.out k hlt
        obtain ⟨-, hcell⟩ := hcc k hlt
        obtain ⟨b', off', rfl, hcc'⟩ := HC'.out k hlt
        obtain ⟨-, hcell'⟩ := hcc' k hlt
        obtain ⟨x, hx⟩ : ∃ x, Hid (x = xs.getD k 0) := ⟨_, rfl⟩
        obtain ⟨y, hy⟩ : ∃ y, Hid (y = ys.getD k 0) := ⟨_, rfl⟩
        rw [← hx.out] at hcell
        rw [← hy.out] at hcell'
        clear hcc hcc'
        have hki : (k : Int) < (len : Int) := by omega
        by_cases hxy : x = y
        · have HXY := Lib.hid hxy
          subst hxy
          go_wp2_with fail
          go_quiet (fail)
          go_wp2
          go_roundw
          case rel => exact ⟨k + 1, n + nq, by omega, by go_num, rfl, Lib.hid (take_succ_eq (HL.out ▸ hlt) (HL'.out ▸ hlt) hp.out (hx.out.symm.trans hy.out))⟩
          case measure => simp [intOf]; omega
        · have hne : (x == y) = false := by simpa using hxy
          go_wp2_with fail
          go_quiet (fail)
          go_wp2
          go_ret
          have : decide (xs = ys) = false := by
            simp only [decide_eq_false_iff_not]
            rintro rfl
            exact hxy (hx.out.trans hy.out.symm)
          rw [this]
          exact ⟨rfl, n + nq, World.drewN_drewN _ _ _⟩
      · go_wp2
        go_ret
        have e1 : xs = ys := by
          have := hp.out
          rwa [List.take_of_length_le (by have := HL.out; omega), List.take_of_length_le (by have := HL'.out; omega)] at this
        rw [decide_eq_true e1]
        exact ⟨rfl, n, rfl⟩
  · have hd : decide (xs = ys) = false := by
      simp only [decide_eq_false_iff_not]
      rintro rfl
      exact hll (HL.out.trans HL'.out.symm)
    rw [hd]
    go_enter Try.func44, Try.ntmps44
    go_wp2
    go_ret
    exact ⟨rfl, 0, rfl⟩


/-- The four bytes of a checksum. -/
def sumBytes (s : Int) : List Int := [s % 256, s / 256 % 256, s / 65536 % 256, s / 16777216 % 256]
/-- Does a list of at least ten bytes begin as a frame, with a kind of frame? -/
def headOk (zs : List Int) : Bool :=
  zs.getD 0 0 == 73 && (zs.getD 1 0 == 78 && (zs.getD 2 0 == 69 && (zs.getD 3 0 == 84 && (zs.getD 4 0 == 1 && (decide (1 ≤ zs.getD 5 0) && decide (zs.getD 5 0 ≤ 3))))))
/-- Opening a frame: its kind, its content, the code. -/
def frameOpen (zs : List Int) : Int × List Int × Int :=
  if 60000 < zs.length then (0, [], 2)
  else if zs.length < 10 then (0, [], 14)
  else if headOk zs = true ∧ zs.drop (zs.length - 4) = sumBytes (crcSum (zs.take (zs.length - 4))) then (zs.getD 5 0, (zs.take (zs.length - 4)).drop 6, 0)
  else (0, [], 14)
/-- The call ends with a kind, a slice that reads as the content, and a code; it turns nothing that was there. -/
def Opened (w : World) (r : Int × List Int × Int) (e : Ending) (w' : World) : Prop :=
  ∃ v, e = .returned (.tuple #[.int .i64 r.1, v, .int .i64 r.2.2]) ∧ Rep w' (ints .u8 r.2.1) v ∧ Below w.heap.size w w'
theorem rep_nil (w : World) (k : IntKind) : Rep w (ints k []) (.slice none 0 0) := ⟨none, 0, rfl, by simp, by simp [maxLen], .inl rfl⟩

theorem open_bad {zs : List Int} (h1 : ¬ 60000 < zs.length) (h2 : zs.length < 10 ∨ headOk zs = false) : frameOpen zs = (0, [], 14) := by
  unfold frameOpen
  rw [if_neg h1]
  rcases h2 with h2 | h2
  · rw [if_pos h2]
  · by_cases h3 : zs.length < 10
    · rw [if_pos h3]
    · rw [if_neg h3, if_neg (by simp [h2])]

theorem drop_four {zs : List Int} {n : Nat} (hn : n = zs.length) (h4 : 4 ≤ n) : zs.drop (n - 4) = [zs.getD (n - 4) 0, zs.getD (n - 4 + 1) 0, zs.getD (n - 4 + 2) 0, zs.getD (n - 4 + 3) 0] := by
  subst hn
  apply List.ext_getElem
  · simp; omega
  · intro i h1 h2
    simp only [List.length_cons, List.length_nil] at h2
    have h3 : zs.length - 4 + i < zs.length := by omega
    rw [List.getElem_drop]
    match i, h2 with
    | 0, _ => simp [List.getElem?_eq_getElem (show zs.length - 4 < zs.length by omega)]
    | 1, _ => simp [List.getElem?_eq_getElem h3]
    | 2, _ => simp [List.getElem?_eq_getElem h3]
    | 3, _ => simp [List.getElem?_eq_getElem h3]

end Go.Proofs.Ytmcnnjelajgkjaa
