/-
  The reference opens a frame as the plain function does.
-/
import Derived.Test.YtmcnnjelajgkjaaRows
import Derived.Test.YtmcnnjelajgkjaaFrame
namespace Go.Proofs.Ytmcnnjelajgkjaa
set_option linter.unusedVariables false
open Go.RowKit

set_option maxRecDepth 100000 in
set_option maxHeartbeats 2000000 in
theorem l33Open_any (zs : List Int) (v : Value) (w : World) (hr : Rep w (ints .u8 zs) v) :
    Calls Try.prog 31 #[v] w (Opened w (frameOpen zs)) := by
  have HR := Lib.hid hr
  obtain ⟨a, len, cap, rfl, hmx, HL, HM, HC⟩ := hr.ints_open
  clear hr
  by_cases h6 : 60000 < len
  · have HF : Hid (frameOpen zs = (0, [], 2)) := by unfold Hid frameOpen; rw [if_pos (by rw [← HL.out]; exact h6)]
    go_enter Try.func31, Try.ntmps31
    go_wp2_with fail
    go_ret3
    rw [HF.out]
    exact ⟨_, rfl, rep_nil _ _, Below.refl _ _⟩
  by_cases h10 : len < 10
  · have HF : Hid (frameOpen zs = (0, [], 14)) := open_bad (by rw [← HL.out]; exact h6) (.inl (by rw [← HL.out]; exact h10))
    go_enter Try.func31, Try.ntmps31
    go_wp2_with fail
    go_ret3
    rw [HF.out]
    exact ⟨_, rfl, rep_nil _ _, Below.refl _ _⟩
  have hk6 : 10 ≤ len := by omega
  have hk : len ≤ 60000 := by omega
  clear h6 h10 hmx
  obtain ⟨b, off, rfl, hcc⟩ := HC.out 0 (by omega)
  obtain ⟨c0, hc0⟩ : ∃ x, Hid (x = zs.getD 0 0) := ⟨_, rfl⟩
  obtain ⟨c1, hc1⟩ : ∃ x, Hid (x = zs.getD 1 0) := ⟨_, rfl⟩
  obtain ⟨c2, hc2⟩ : ∃ x, Hid (x = zs.getD 2 0) := ⟨_, rfl⟩
  obtain ⟨c3, hc3⟩ : ∃ x, Hid (x = zs.getD 3 0) := ⟨_, rfl⟩
  obtain ⟨c4, hc4⟩ : ∃ x, Hid (x = zs.getD 4 0) := ⟨_, rfl⟩
  obtain ⟨c5, hc5⟩ : ∃ x, Hid (x = zs.getD 5 0) := ⟨_, rfl⟩
  have w0 := (hcc 0 (by omega)).2
  have w1 := (hcc 1 (by omega)).2
  have w2 := (hcc 2 (by omega)).2
  have w3 := (hcc 3 (by omega)).2
  have w4 := (hcc 4 (by omega)).2
  have w5 := (hcc 5 (by omega)).2
  have b5 := bounds_u8 (hcc 5 (by omega)).1
  rw [← hc0.out, Nat.add_zero] at w0
  rw [← hc1.out] at w1
  rw [← hc2.out] at w2
  rw [← hc3.out] at w3
  rw [← hc4.out] at w4
  rw [← hc5.out] at w5 b5
  have HCC := Lib.hid hcc; clear hcc
  obtain ⟨b51, b52⟩ := b5
  have HBAD : Hid (headOk zs = false → frameOpen zs = (0, [], 14)) := fun h => open_bad (by have := HL.out; omega) (.inr h)
  have HOK : Hid (headOk zs = (c0 == 73 && (c1 == 78 && (c2 == 69 && (c3 == 84 && (c4 == 1 && (decide (1 ≤ c5) && decide (c5 ≤ 3)))))))) := by unfold Hid headOk; rw [hc0.out, hc1.out, hc2.out, hc3.out, hc4.out, hc5.out]
  clear hc0 hc1 hc2 hc3 hc4
  by_cases e0 : ¬ c0 = 73
  · go_enter Try.func31, Try.ntmps31
    go_wp2_with fail
    go_ret3
    rw [HBAD.out (by rw [HOK.out]; simp [e0])]
    exact ⟨_, rfl, rep_nil _ _, Below.refl _ _⟩
  obtain rfl : c0 = 73 := Decidable.not_not.1 e0
  clear e0
  by_cases e1 : ¬ c1 = 78
  · go_enter Try.func31, Try.ntmps31
    go_wp2_with fail
    go_ret3
    rw [HBAD.out (by rw [HOK.out]; simp [e1])]
    exact ⟨_, rfl, rep_nil _ _, Below.refl _ _⟩
  obtain rfl : c1 = 78 := Decidable.not_not.1 e1
  clear e1
  by_cases e2 : ¬ c2 = 69
  · go_enter Try.func31, Try.ntmps31
    go_wp2_with fail
    go_ret3
    rw [HBAD.out (by rw [HOK.out]; simp [e2])]
    exact ⟨_, rfl, rep_nil _ _, Below.refl _ _⟩
  obtain rfl : c2 = 69 := Decidable.not_not.1 e2
  clear e2
  by_cases e3 : ¬ c3 = 84
  · go_enter Try.func31, Try.ntmps31
    go_wp2_with fail
    go_ret3
    rw [HBAD.out (by rw [HOK.out]; simp [e3])]
    exact ⟨_, rfl, rep_nil _ _, Below.refl _ _⟩
  obtain rfl : c3 = 84 := Decidable.not_not.1 e3
  clear e3
  by_cases e4 : ¬ c4 = 1
  · go_enter Try.func31, Try.ntmps31
    go_wp2_with fail
    go_ret3
    rw [HBAD.out (by rw [HOK.out]; simp [e4])]
    exact ⟨_, rfl, rep_nil _ _, Below.refl _ _⟩
  obtain rfl : c4 = 1 := Decidable.not_not.1 e4
  clear e4
  by_cases e5 : ¬ 1 ≤ c5
  · go_enter Try.func31, Try.ntmps31
    go_wp2_with fail
    go_ret3
    rw [HBAD.out (by rw [HOK.out]; simp; omega)]
    exact ⟨_, rfl, rep_nil _ _, Below.refl _ _⟩
  by_cases e6 : ¬ c5 ≤ 3
  · go_enter Try.func31, Try.ntmps31
    go_wp2_with fail
    go_ret3
    rw [HBAD.out (by rw [HOK.out]; simp; omega)]
    exact ⟨_, rfl, rep_nil _ _, Below.refl _ _⟩
  have e5' : 1 ≤ c5 := by omega
  have e6' : c5 ≤ 3 := by omega
  clear e5 e6
  have HOK' : Hid (headOk zs = true) := by unfold Hid; rw [HOK.out]; simp [e5', e6']
  clear HBAD HOK
  obtain ⟨s, hs⟩ : ∃ s, Hid (s = crcSum (zs.take (len - 4))) := ⟨_, rfl⟩
  have hsb := crcSum_bd (zs.take (len - 4))
  rw [← hs.out] at hsb
  obtain ⟨hs1, hs2⟩ := hsb
  obtain ⟨t0, ht0⟩ : ∃ x, Hid (x = zs.getD (len - 4) 0) := ⟨_, rfl⟩
  obtain ⟨t1, ht1⟩ : ∃ x, Hid (x = zs.getD (len - 4 + 1) 0) := ⟨_, rfl⟩
  obtain ⟨t2, ht2⟩ : ∃ x, Hid (x = zs.getD (len - 4 + 2) 0) := ⟨_, rfl⟩
  obtain ⟨t3, ht3⟩ : ∃ x, Hid (x = zs.getD (len - 4 + 3) 0) := ⟨_, rfl⟩
  have q0 := (HCC.out (len - 4) (by omega)).2
  have q1 := (HCC.out (len - 4 + 1) (by omega)).2
  have q2 := (HCC.out (len - 4 + 2) (by omega)).2
  have q3 := (HCC.out (len - 4 + 3) (by omega)).2
  rw [← ht0.out] at q0
  rw [← ht1.out] at q1
  rw [← ht2.out] at q2
  rw [← ht3.out] at q3
  have hrs := HR.out.ints_sub 0 (len - 4) (by omega) (by have := HL.out; omega)
  rw [Nat.add_zero, Nat.sub_zero, Nat.sub_zero, List.drop_zero] at hrs
  have HRS := Lib.hid hrs; clear hrs
  have hcap : ¬ cap = 6 := by have := HM.out; omega
  have hcap0 : ¬ cap = 0 := by have := HM.out; omega
  have hkc : len ≤ cap := by have := HM.out; omega
  have HT : Hid (frameOpen zs = if t0 = s % 256 ∧ t1 = s / 256 % 256 ∧ t2 = s / 65536 % 256 ∧ t3 = s / 16777216 then (c5, (zs.take (len - 4)).drop 6, 0) else (0, [], 14)) := by
    have hl := HL.out
    unfold Hid frameOpen
    rw [if_neg (by omega), if_neg (by omega), ← hl, drop_four hl (by omega), ← ht0.out, ← ht1.out, ← ht2.out, ← ht3.out, ← hs.out, ← hc5.out, HOK'.out]
    have e3 : s / 16777216 % 256 = s / 16777216 := by omega
    simp [sumBytes, e3]
  by_cases g0 : ¬ t0 = s % 256
  · go_enter Try.func31, Try.ntmps31
    go_wp2_with fail
    refine (l33Sum_any _ _ w HRS.out).mono ?_
    rw [← hs.out]
    rintro e w9 ⟨rfl, rfl⟩
    go_wp2_with fail
    go_ret3
    rw [HT.out, if_neg (by intro hh; exact absurd hh.1 (by first | exact g0 | (simpa using g0)))]
    exact ⟨_, rfl, rep_nil _ _, Below.refl _ _⟩
  have g0' : t0 = s % 256 := Decidable.not_not.1 g0
  clear g0
  rw [g0'] at q0
  have G0 := Lib.hid g0'; clear g0'
  by_cases g1 : ¬ t1 = s / 256 % 256
  · go_enter Try.func31, Try.ntmps31
    go_wp2_with fail
    refine (l33Sum_any _ _ w HRS.out).mono ?_
    rw [← hs.out]
    rintro e w9 ⟨rfl, rfl⟩
    go_wp2_with fail
    go_ret3
    rw [HT.out, if_neg (by intro hh; exact absurd hh.2.1 (by first | exact g1 | (simpa using g1)))]
    exact ⟨_, rfl, rep_nil _ _, Below.refl _ _⟩
  have g1' : t1 = s / 256 % 256 := Decidable.not_not.1 g1
  clear g1
  rw [g1'] at q1
  have G1 := Lib.hid g1'; clear g1'
  by_cases g2 : ¬ t2 = s / 65536 % 256
  · go_enter Try.func31, Try.ntmps31
    go_wp2_with fail
    refine (l33Sum_any _ _ w HRS.out).mono ?_
    rw [← hs.out]
    rintro e w9 ⟨rfl, rfl⟩
    go_wp2_with fail
    go_ret3
    rw [HT.out, if_neg (by intro hh; exact absurd hh.2.2.1 (by first | exact g2 | (simpa using g2)))]
    exact ⟨_, rfl, rep_nil _ _, Below.refl _ _⟩
  have g2' : t2 = s / 65536 % 256 := Decidable.not_not.1 g2
  clear g2
  rw [g2'] at q2
  have G2 := Lib.hid g2'; clear g2'
  by_cases g3 : ¬ t3 = s / 16777216
  · go_enter Try.func31, Try.ntmps31
    go_wp2_with fail
    refine (l33Sum_any _ _ w HRS.out).mono ?_
    rw [← hs.out]
    rintro e w9 ⟨rfl, rfl⟩
    go_wp2_with fail
    go_ret3
    rw [HT.out, if_neg (by intro hh; exact absurd hh.2.2.2 (by first | exact g3 | (simpa using g3)))]
    exact ⟨_, rfl, rep_nil _ _, Below.refl _ _⟩
  have g3' : t3 = s / 16777216 := Decidable.not_not.1 g3
  clear g3
  rw [g3'] at q3
  have G3 := Lib.hid g3'; clear g3'
  go_enter Try.func31, Try.ntmps31
  go_wp2_with fail
  refine (l33Sum_any _ _ w HRS.out).mono ?_
  rw [← hs.out]
  rintro e w9 ⟨rfl, rfl⟩
  go_wp2_with fail
  go_quiet (fail)
  go_wp2
  go_ret3
  rw [HT.out, if_pos ⟨G0.out, G1.out, G2.out, G3.out⟩]
  exact ⟨_, rfl, (HR.out.below (bdrew nq)).ints_sub 6 (len - 4) (by omega) (by have := HL.out; omega), bdrew nq⟩
end Go.Proofs.Ytmcnnjelajgkjaa
