/-
  The program opens a frame as the plain function does.
-/
import Derived.Test.YtmcnnjelajgkjaaRows
import Derived.Test.YtmcnnjelajgkjaaFramed
namespace Go.Proofs.Ytmcnnjelajgkjaa
set_option linter.unusedVariables false
open Go.RowKit

theorem take_six {zs : List Int} (h : 6 ≤ zs.length) : zs.take 6 = [zs.getD 0 0, zs.getD 1 0, zs.getD 2 0, zs.getD 3 0, zs.getD 4 0, zs.getD 5 0] := by
  match zs, h with
  | a :: b :: c :: d :: e :: f :: r, _ => simp

/-- The frame made anew is the frame that came in: just where it begins as a frame and ends in its checksum. -/
theorem framed_eq {zs : List Int} (h10 : 10 ≤ zs.length) (k1 : 1 ≤ zs.getD 5 0) (k3 : zs.getD 5 0 ≤ 3) :
    frameBytes (zs.getD 5 0) ((zs.take (zs.length - 4)).drop 6) = zs ↔ headOk zs = true ∧ zs.drop (zs.length - 4) = sumBytes (crcSum (zs.take (zs.length - 4))) := by
  have hsix : (zs.take (zs.length - 4)).take 6 = [zs.getD 0 0, zs.getD 1 0, zs.getD 2 0, zs.getD 3 0, zs.getD 4 0, zs.getD 5 0] := by
    rw [List.take_take, show min 6 (zs.length - 4) = 6 from by omega]; exact take_six (by omega)
  have hbl : (frameBody (zs.getD 5 0) ((zs.take (zs.length - 4)).drop 6)).length = zs.length - 4 := by
    simp [frameBody, headBytes]; omega
  have hhead : frameBody (zs.getD 5 0) ((zs.take (zs.length - 4)).drop 6) = zs.take (zs.length - 4) ↔ headOk zs = true := by
    have e : zs.take (zs.length - 4) = (zs.take (zs.length - 4)).take 6 ++ (zs.take (zs.length - 4)).drop 6 := (List.take_append_drop _ _).symm
    constructor
    · intro h
      have h2 := congrArg (List.take 6) h
      rw [hsix] at h2
      simp [frameBody, headBytes] at h2
      obtain ⟨a0, a1, a2, a3, a4⟩ := h2
      simp only [List.getD_eq_getElem?_getD] at k1 k3
      simp [headOk, ← a0, ← a1, ← a2, ← a3, ← a4, k1, k3]
    · intro h
      conv => rhs; rw [e, hsix]
      simp only [headOk, Bool.and_eq_true, beq_iff_eq, decide_eq_true_eq] at h
      obtain ⟨a0, a1, a2, a3, a4, -⟩ := h
      rw [a0, a1, a2, a3, a4]
      simp [frameBody, headBytes]
  have hz : zs = zs.take (zs.length - 4) ++ zs.drop (zs.length - 4) := (List.take_append_drop _ _).symm
  constructor
  · intro h
    have h1 := congrArg (List.take (zs.length - 4)) h
    have h2 := congrArg (List.drop (zs.length - 4)) h
    unfold frameBytes at h1 h2
    rw [List.take_append_of_le_length (by omega), List.take_of_length_le (by omega)] at h1
    rw [List.drop_append, List.drop_of_length_le (by omega), hbl, Nat.sub_self, List.drop_zero, List.nil_append] at h2
    rw [h1] at h2
    exact ⟨hhead.1 h1, h2.symm⟩
  · intro ⟨h1, h2⟩
    have h3 := hhead.2 h1
    unfold frameBytes
    rw [h3, ← h2]
    exact hz.symm

theorem frameBytes_wf {kind : Int} {zs : List Int} (hk : 0 ≤ kind ∧ kind ≤ 255) (hz : ∀ z ∈ zs, (Lit.int .u8 z).wf = true) : ∀ z ∈ frameBytes kind zs, (Lit.int .u8 z).wf = true := by
  intro z h
  have hs := crcSum_bd (frameBody kind zs)
  simp only [frameBytes, List.mem_append] at h
  rcases h with h | h
  · simp only [frameBody, headBytes, List.mem_append] at h
    rcases h with (h | h) | h
    · simp at h; rcases h with rfl | rfl | rfl | rfl | rfl <;> decide
    · simp at h; subst h; exact WalkArith.wf_u8 hk
    · exact hz z h
  · simp only [sumBytes, List.mem_cons, List.not_mem_nil, or_false] at h
    rcases h with rfl | rfl | rfl | rfl <;> exact WalkArith.wf_u8 (by omega)

set_option maxRecDepth 4000 in
set_option maxHeartbeats 1000000 in
theorem contentOf_any (zs : List Int) (v : Value) (w : World) (hr : Rep w (ints .u8 zs) v) :
    Calls Try.prog 32 #[v] w (Opened w (frameOpen zs)) := by
  have HR := Lib.hid hr
  obtain ⟨a, len, cap, rfl, hmx, HL, HM, HC⟩ := hr.ints_open
  clear hr
  by_cases h6 : 60000 < len
  · have HF : Hid (frameOpen zs = (0, [], 2)) := by unfold Hid frameOpen; rw [if_pos (by rw [← HL.out]; exact h6)]
    go_enter Try.func32, Try.ntmps32
    go_wp2_with fail
    go_ret3
    rw [HF.out]
    exact ⟨_, rfl, rep_nil _ _, Below.refl _ _⟩
  by_cases h10 : len < 10
  · have HF : Hid (frameOpen zs = (0, [], 14)) := open_bad (by rw [← HL.out]; exact h6) (.inl (by rw [← HL.out]; exact h10))
    go_enter Try.func32, Try.ntmps32
    go_wp2_with fail
    go_ret3
    rw [HF.out]
    exact ⟨_, rfl, rep_nil _ _, Below.refl _ _⟩
  have hk6 : 10 ≤ len := by omega
  have hk : len ≤ 60000 := by omega
  clear h6 h10 hmx
  obtain ⟨b, off, rfl, hcc⟩ := HC.out 0 (by omega)
  obtain ⟨c5, hc5⟩ : ∃ x, Hid (x = zs.getD 5 0) := ⟨_, rfl⟩
  have w5 := (hcc 5 (by omega)).2
  have b5 := bounds_u8 (hcc 5 (by omega)).1
  rw [← hc5.out] at w5 b5
  clear hcc
  obtain ⟨b51, b52⟩ := b5
  have hsub := HR.out.ints_sub 6 (len - 4) (by omega) (by have := HL.out; omega)
  have HSUB := Lib.hid hsub; clear hsub
  have hcap : ¬ cap = 6 := by have := HM.out; omega
  have hkc : len ≤ cap := by have := HM.out; omega
  have hix : (5 : Int) < (len : Int) := by omega
  have hw4 : IntKind.i64.wrap ((len : Int) - 4) = (len : Int) - 4 := by rw [IntKind.wrap_i64]; omega
  have hn4 : ((len : Int) - 4).toNat = len - 4 := by omega
  have HBAD : Hid (headOk zs = false → frameOpen zs = (0, [], 14)) := fun h => open_bad (by have := HL.out; omega) (.inr h)
  by_cases k1 : c5 < 1
  · go_enter Try.func32, Try.ntmps32
    go_wp2_with fail
    go_quiet (fail)
    clear hw4 hn4
    go_wp2_with fail
    go_ret3
    rw [HBAD.out (by unfold headOk; rw [← hc5.out]; simp; omega)]
    exact ⟨_, rfl, rep_nil _ _, bdrew nq⟩
  by_cases k3 : 3 < c5
  · go_enter Try.func32, Try.ntmps32
    go_wp2_with fail
    go_quiet (fail)
    clear hw4 hn4
    go_wp2_with fail
    go_ret3
    rw [HBAD.out (by unfold headOk; rw [← hc5.out]; simp; omega)]
    exact ⟨_, rfl, rep_nil _ _, bdrew nq⟩
  clear HBAD
  have HK : Hid (1 ≤ c5 ∧ c5 ≤ 3) := ⟨by omega, by omega⟩
  have HE : Hid (frameOpen zs = if frameBytes c5 ((zs.take (len - 4)).drop 6) = zs then (c5, (zs.take (len - 4)).drop 6, 0) else (0, [], 14)) := by
    have hl := HL.out
    have hh := hc5.out
    have hk := HK.out
    subst hl hh
    unfold Hid frameOpen
    rw [if_neg (by omega), if_neg (by omega)]
    by_cases hq : frameBytes (zs.getD 5 0) ((zs.take (zs.length - 4)).drop 6) = zs
    · rw [if_pos hq, if_pos ((framed_eq hk6 hk.1 hk.2).1 hq)]
    · rw [if_neg hq, if_neg (fun h => hq ((framed_eq hk6 hk.1 hk.2).2 h))]
  go_enter Try.func32, Try.ntmps32
  go_wp2_with fail
  go_quiet (fail)
  clear hw4 hn4
  go_wp2_with fail
  refine (framed_any c5 _ _ _ _ _ _ (HSUB.out.below (bdrew nq)) ⟨b51, b52⟩ (by have := HL.out; simp; omega)).mono ?_
  rintro e w1 ⟨hb1, hf⟩
  rw [if_neg (by have := HL.out; simp; omega)] at hf
  obtain ⟨v1, rfl, ho1⟩ := hf
  have HO1 := Lib.hid ho1; clear ho1
  have hbn := (bdrew (w := w) (B := w.heap.size) nq).trans hb1
  have HWF : Hid (∀ z ∈ frameBytes c5 ((zs.take (len - 4)).drop 6), (Lit.int .u8 z).wf = true) := frameBytes_wf ⟨b51, b52⟩ HSUB.out.ints_wf
  go_wp2_with fail
  refine (equalBytes_any _ zs _ _ w1 (rep_of_owns HO1.out HWF.out) (HR.out.below hbn)).mono ?_
  by_cases hq : frameBytes c5 ((zs.take (len - 4)).drop 6) = zs
  · rw [decide_eq_true hq]
    have HE' : Hid (frameOpen zs = (c5, (zs.take (len - 4)).drop 6, 0)) := by rw [Hid, HE.out, if_pos hq]
    rintro e w2 ⟨rfl, n2, rfl⟩
    clear hq
    go_wp2_with fail
    go_ret3
    rw [HE'.out]
    exact ⟨_, rfl, HSUB.out.below (hbn.trans (bdrew n2)), hbn.trans (bdrew n2)⟩
  · rw [decide_eq_false hq]
    have HE' : Hid (frameOpen zs = (0, [], 14)) := by rw [Hid, HE.out, if_neg hq]
    rintro e w2 ⟨rfl, n2, rfl⟩
    clear hq
    go_wp2_with fail
    go_ret3
    rw [HE'.out]
    exact ⟨_, rfl, rep_nil _ _, hbn.trans (bdrew n2)⟩
end Go.Proofs.Ytmcnnjelajgkjaa
