/-
  Decoding a number: both programs compute the plain function.
-/
import Derived.Test.YtmcnnjelajgkjaaRows
import Derived.Test.YtmcnnjelajgkjaaRdr
namespace Go.Proofs.Ytmcnnjelajgkjaa
set_option linter.unusedVariables false
open Go.RowKit

/-- What decoding answers. -/
def decNum (zs : List Int) (a : Int) : Value :=
  if 0 ≤ a ∧ a ≤ zs.length then
    (if (rdNum zs ⟨a.toNat, false⟩).2.bad = true then .tuple #[.int .i64 0, .int .i64 0, .int .i64 14] else .tuple #[.int .i64 (rdNum zs ⟨a.toNat, false⟩).1, .int .i64 (rdNum zs ⟨a.toNat, false⟩).2.at_, .int .i64 0])
  else .tuple #[.int .i64 0, .int .i64 0, .int .i64 2]
/-- The call ends with a value and turns nothing that was there. -/
def Gives (w : World) (v : Value) (e : Ending) (w' : World) : Prop := e = .returned v ∧ Below w.heap.size w w'

set_option maxRecDepth 4000 in
set_option maxHeartbeats 400000 in
theorem specDecodeNumber_any (zs : List Int) (v : Value) (a : Int) (w : World) (hr : Rep w (ints .u8 zs) v) (hsz : zs.length ≤ 1048576) :
    Calls Try.prog 16 #[v, .int .i64 a] w (Gives w (decNum zs a)) := by
  have HR := Lib.hid hr
  obtain ⟨ad, len, cap, rfl, hmx, HL, HM, HC⟩ := hr.ints_open
  clear hr HC HM
  have hl20 : len ≤ 1048576 := by rw [HL.out]; exact hsz
  by_cases ha : 0 ≤ a ∧ a ≤ zs.length
  · have hbt : between a 0 len = true := by rw [HL.out]; simp [between, ha]
    have HA : Hid (decNum zs a = if (rdNum zs ⟨a.toNat, false⟩).2.bad = true then .tuple #[.int .i64 0, .int .i64 0, .int .i64 14] else .tuple #[.int .i64 (rdNum zs ⟨a.toNat, false⟩).1, .int .i64 (rdNum zs ⟨a.toNat, false⟩).2.at_, .int .i64 0]) := by unfold Hid decNum; rw [if_pos ha]
    obtain ⟨k, rfl⟩ := Int.eq_ofNat_of_zero_le ha.1
    have hk : k ≤ zs.length := by omega
    have HK := Lib.hid hk; clear hk ha
    rw [Int.toNat_natCast] at HA
    go_enter Try.func16, Try.ntmps16
    go_wp2_with (go_at_call 26; refine (l00In_any _ _ _ w).mono ?_; rintro e w1 ⟨rfl, rfl⟩)
    refine (rdNum_any w _ w.heap.size zs (.slice ad len cap) ⟨k, false⟩ ⟨HR.out, (Below.refl _ _).alloc (Nat.le_refl _) _, Nat.le_refl _, Blk.new w _ [_, _, _], HK.out, hsz⟩).mono ?_
    obtain ⟨n, s, HS⟩ : ∃ n s, Hid (rdNum zs ⟨k, false⟩ = (n, s)) := ⟨_, _, rfl⟩
    rw [HS.out] at HA
    simp only at HA
    rw [HS.out]
    rintro e w1 ⟨rfl, hr1, ho1⟩
    have c1 := hr1.blk.cell 1
    have c2 := hr1.blk.cell 2
    simp only [List.getElem?_cons_zero, List.getElem?_cons_succ] at c1 c2
    have hb1 := hr1.below
    clear hr1 ho1
    cases hbad : s.bad
    · rw [hbad] at c2 HA
      have HBad := Lib.hid hbad; clear hbad
      go_wp2_with fail
      go_quiet (fail)
      go_wp2
      go_ret3
      rw [HA.out]
      exact ⟨rfl, hb1.trans (bdrew nq)⟩
    · rw [hbad] at c2 HA
      have HBad := Lib.hid hbad; clear hbad
      go_wp2_with fail
      go_ret3
      rw [HA.out]
      exact ⟨rfl, hb1⟩
  · have hbt : between a 0 len = false := by rw [HL.out]; simp [between]; omega
    have HA : Hid (decNum zs a = .tuple #[.int .i64 0, .int .i64 0, .int .i64 2]) := by unfold Hid decNum; rw [if_neg ha]
    go_enter Try.func16, Try.ntmps16
    go_wp2_with (go_at_call 26; refine (l00In_any _ _ _ w).mono ?_; rintro e w1 ⟨rfl, rfl⟩)
    go_ret3
    rw [HA.out]
    exact ⟨rfl, Below.refl _ _⟩

theorem num_wrap64 {z x z1 : Int} {k : Nat} (hz : 0 ≤ z ∧ z < 128 ^ k) (hx : 0 ≤ x) (h : z1 = z + x % 128 * 128 ^ k) (hk : k < 5) : wrap64 (z + wrap64 (x % 128 * 128 ^ k)) = z1 := by
  have hb := num_bound hz hx h
  have hl := num_lt hb.2 hk
  have h1 : 0 ≤ x % 128 * 128 ^ k := Int.mul_nonneg (by omega) (Int.le_of_lt (Int.pow_pos (by omega)))
  generalize x % 128 * 128 ^ k = q at *
  rw [IntWalk.wrap64_in q (by omega), IntWalk.wrap64_in _ (by omega)]
  exact h.symm
theorem pow_bound {k : Nat} (hk : k < 5) : 1 ≤ (128 : Int) ^ k ∧ (128 : Int) ^ k ≤ 268435456 := by
  have h1 := Nat.pow_le_pow_right (show 0 < 128 by omega) (show k ≤ 4 by omega)
  have h2 := Nat.pow_pos (n := k) (show 0 < 128 by omega)
  have e : ((128 ^ k : Nat) : Int) = (128 : Int) ^ k := by simp
  omega

set_option maxRecDepth 4000 in
set_option maxHeartbeats 2000000 in
theorem implDecodeNumber_any (zs : List Int) (v : Value) (a : Int) (w : World) (hr : Rep w (ints .u8 zs) v) (hsz : zs.length ≤ 1048576) :
    Calls Try.prog 17 #[v, .int .i64 a] w (Gives w (decNum zs a)) := by
  have HZ := Lib.hid hr.ints_wf
  obtain ⟨ad, len, cap, rfl, hmx, HL, HM, HC⟩ := hr.ints_open
  clear hr HM
  have hl20 : len ≤ 1048576 := by rw [HL.out]; exact hsz
  by_cases ha : 0 ≤ a ∧ a ≤ zs.length
  · have HA : Hid (decNum zs a = if (rdNum zs ⟨a.toNat, false⟩).2.bad = true then .tuple #[.int .i64 0, .int .i64 0, .int .i64 14] else .tuple #[.int .i64 (rdNum zs ⟨a.toNat, false⟩).1, .int .i64 (rdNum zs ⟨a.toNat, false⟩).2.at_, .int .i64 0]) := by unfold Hid decNum; rw [if_pos ha]
    obtain ⟨k0, rfl⟩ := Int.eq_ofNat_of_zero_le ha.1
    have hk : k0 ≤ len := by rw [HL.out]; omega
    clear ha
    rw [Int.toNat_natCast] at HA
    have hd0 : decide ((k0 : Int) < 0) = false := by simp
    have hd1 : decide (len < k0) = false := by simp; omega
    go_enter Try.func17, Try.ntmps17
    go_wp2_with fail
    go_loop [7, 8, 9] (fun zv wv kv => ∃ (j : Nat) (z p : Int), j ≤ 5 ∧ k0 + j ≤ len ∧ kv = .int .i64 (k0 + j : Nat) ∧ zv = .int .i64 z ∧ wv = .int .i64 p ∧ Hid (0 ≤ z ∧ z < 128 ^ j) ∧ Hid (p = 128 ^ j) ∧ Hid (rdNumF zs (5 - j) j z ⟨k0 + j, false⟩ = rdNum zs ⟨k0, false⟩)) (fun _ _ kv => k0 + 5 - (intOf kv).toNat)
    case atStart => exact ⟨0, 0, 1, by omega, by omega, rfl, rfl, rfl, Lib.hid (by simp), rfl, rfl⟩
    case round =>
      obtain ⟨j, z, p, hj, hkj, rfl, rfl, rfl, hz, hp, he⟩ := hrel
      by_cases hlt : k0 + j < len
      · by_cases hj5 : j < 5
        · obtain ⟨b, off, rfl, hcc⟩ := HC.out (k0 + j) hlt
          obtain ⟨hw, hcell⟩ := hcc (k0 + j) hlt
          obtain ⟨x, hx⟩ : ∃ x, Hid (x = zs.getD (k0 + j) 0) := ⟨_, rfl⟩
          rw [← hx.out] at hcell hw
          have hxb := bounds_u8 hw
          clear hcc hw
          obtain ⟨z1, hz1⟩ : ∃ z1, Hid (z1 = z + x % 128 * 128 ^ j) := ⟨_, rfl⟩
          have hb1 := num_bound hz.out hxb.1 hz1.out
          have Hz1 := Lib.hid hb1
          have hz0 := hb1.1
          have hz9 : z1 < 34359738368 := num_lt hb1.2 hj5
          clear hb1
          obtain ⟨hx1, hx2⟩ := hxb
          have hsum : wrap64 (z + wrap64 (x % 128 * p)) = z1 := by
            rw [hp.out]; exact num_wrap64 hz.out hx1 hz1.out hj5
          have hpb : 1 ≤ p ∧ p ≤ 268435456 := by rw [hp.out]; exact pow_bound hj5
          obtain ⟨hp1, hp2⟩ := hpb
          have HB : Hid (rdByte zs ⟨k0 + j, false⟩ = (x, ⟨k0 + j + 1, false⟩)) := by
            have hl : ¬ zs.length ≤ k0 + j := by rw [← HL.out]; omega
            simp [Hid, rdByte, hl, hx.out]
          by_cases hx128 : x < 128
          · have HF : Hid (rdNum zs ⟨k0, false⟩ = (unzig z1, ⟨k0 + j + 1, false || ((x == 0) && decide (0 < j)) || !isInt (unzig z1)⟩)) := Lib.hid (by
              rw [← he.out, show 5 - j = (5 - (j + 1)) + 1 from by omega]
              conv => lhs; unfold rdNumF
              rw [HB.out]
              simp only
              rw [if_pos hx128, ← hz1.out])
            obtain ⟨n, hn⟩ : ∃ n, Hid (n = unzig z1) := ⟨_, rfl⟩
            rw [← hn.out] at HF
            by_cases hpar : z1 % 2 = 1
            · have hp : (z1 % 2 == 1) = true := by simpa using hpar
              have hodd : -(z1 / 2) - 1 = n := by rw [hn.out]; unfold unzig; rw [if_pos hpar]
              clear hpar
              rcases Bool.eq_false_or_eq_true (x == 0) with hxb | hxb <;> by_cases hj0 : 0 < j
              all_goals
                go_wp2_with fail
                try (refine (implIsInt_any _ _).mono ?_
                     rintro e w2 ⟨rfl, rfl⟩
                     obtain ⟨bi, hbi⟩ : ∃ bi, isInt n = bi := ⟨_, rfl⟩
                     have HBI := Lib.hid hbi
                     rw [hbi]
                     clear hbi
                     cases bi
                     all_goals go_wp2_with fail)
                all_goals
                  go_ret3
                  rw [HA.out, HF.out]
                  refine ⟨?_, Below.refl _ _⟩
                  first | (simp [hxb, hj0, HBI.out]; done) | (simp [hxb, hj0]; done)
            · have hp : (z1 % 2 == 1) = false := by simpa using hpar
              have heven : z1 / 2 = n := by rw [hn.out]; unfold unzig; rw [if_neg hpar]
              clear hpar
              rcases Bool.eq_false_or_eq_true (x == 0) with hxb | hxb <;> by_cases hj0 : 0 < j
              all_goals
                go_wp2_with fail
                try (refine (implIsInt_any _ _).mono ?_
                     rintro e w2 ⟨rfl, rfl⟩
                     obtain ⟨bi, hbi⟩ : ∃ bi, isInt n = bi := ⟨_, rfl⟩
                     have HBI := Lib.hid hbi
                     rw [hbi]
                     clear hbi
                     cases bi
                     all_goals go_wp2_with fail)
                all_goals
                  go_ret3
                  rw [HA.out, HF.out]
                  refine ⟨?_, Below.refl _ _⟩
                  first | (simp [hxb, hj0, HBI.out]; done) | (simp [hxb, hj0]; done)
          · go_wp2_with fail
            have HSUM := Lib.hid hsum; clear hsum
            go_round
            case rel => exact ⟨j + 1, z1, p * 128, by omega, by omega, by go_num, by first | rfl | exact congrArg (Value.int .i64) HSUM.out, rfl, Hz1, Lib.hid (by rw [hp.out, Int.pow_succ]), Lib.hid (by
              rw [← he.out, show 5 - j = (5 - (j + 1)) + 1 from by omega]
              conv => rhs; unfold rdNumF
              rw [HB.out]
              simp only
              rw [if_neg hx128, hz1.out, Nat.add_assoc])⟩
            case measure => simp [intOf]; omega
        · go_wp2_with fail
          go_ret3
          obtain rfl : j = 5 := by omega
          have h5 := he.out
          simp only [Nat.sub_self, rdNumF] at h5
          rw [HA.out, ← h5]
          exact ⟨rfl, Below.refl _ _⟩
      · have hnone : Hid ((rdNum zs ⟨k0, false⟩).2.bad = true) := by
          have hl : zs.length ≤ k0 + j := by rw [← HL.out]; omega
          show _ = _
          rw [← he.out]
          by_cases hj5 : j < 5
          · rw [show 5 - j = (5 - (j + 1)) + 1 from by omega]
            unfold rdNumF
            simp [rdByte, hl]
          · obtain rfl : j = 5 := by omega
            simp [rdNumF]
        go_wp2_with fail
        go_ret3
        rw [HA.out, hnone.out]
        exact ⟨rfl, Below.refl _ _⟩
  · have HA : Hid (decNum zs a = .tuple #[.int .i64 0, .int .i64 0, .int .i64 2]) := by unfold Hid decNum; rw [if_neg ha]
    have ha' : ¬ (0 ≤ a ∧ a ≤ len) := by rw [HL.out]; exact ha
    clear ha
    by_cases h0 : 0 ≤ a
    · have h1 : (len : Int) < a := by omega
      go_enter Try.func17, Try.ntmps17
      go_wp2_with fail
      go_ret3
      rw [HA.out]
      exact ⟨rfl, Below.refl _ _⟩
    · go_enter Try.func17, Try.ntmps17
      go_wp2_with fail
      go_ret3
      rw [HA.out]
      exact ⟨rfl, Below.refl _ _⟩
end Go.Proofs.Ytmcnnjelajgkjaa
