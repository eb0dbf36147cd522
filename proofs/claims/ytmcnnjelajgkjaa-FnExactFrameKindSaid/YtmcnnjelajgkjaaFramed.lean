/-
  The program makes a frame, and opens one by making it anew.
-/
import Derived.Test.YtmcnnjelajgkjaaRows
import Derived.Test.YtmcnnjelajgkjaaFrame
import Derived.Test.YtmcnnjelajgkjaaReads
namespace Go.Proofs.Ytmcnnjelajgkjaa
set_option linter.unusedVariables false
open Go.RowKit

/-- The first bytes of a frame. -/
def headBytes : List Int := [73, 78, 69, 84, 1]
theorem frameHead_any (w : World) : Calls Try.prog 54 #[] w (OwnBytes w headBytes) := by
  go_enter Try.func54, Try.ntmps54
  go_wp2
  go_ret
  refine ⟨_, rfl, ?_, (Below.refl _ _).alloc (Nat.le_refl _) _⟩
  have hb : Blk (w.alloc (.cells (headBytes.map (Value.int .u8)).toArray 5)) w.heap.size 5 (headBytes.map (Value.int .u8) ++ []) := by rw [List.append_nil]; exact Blk.new w _ _
  exact owns_of_blk hb (Nat.le_refl _) (Nat.le_refl _) (by simp [maxLen]) rfl rfl

/-- A frame, without its checksum. -/
def frameBody (kind : Int) (content : List Int) : List Int := headBytes ++ [kind] ++ content
def frameBytes (kind : Int) (content : List Int) : List Int := frameBody kind content ++ sumBytes (crcSum (frameBody kind content))
/-- What making a frame answers: the frame, in new memory; or that it is too long. -/
def Framed (w : World) (kind : Int) (content : List Int) (e : Ending) (w' : World) : Prop :=
  Below w.heap.size w w' ∧
    if 59990 < content.length then e = .returned (.tuple #[.slice none 0 0, .int .i64 4])
    else ∃ v, e = .returned (.tuple #[v, .int .i64 0]) ∧ w'.ownsRow w.heap.size 5 1 v (frameBytes kind content).length ((frameBytes kind content).map (Value.int .u8))

theorem int_cells {w : World} {k : IntKind} {zs : List Int} {b off n c : Nat} (h : Rep w (ints k zs) (.slice (some ⟨b, off, none⟩) n c)) : ∀ j u, (zs.map (Value.int k))[j]? = some u → w.cell? ((⟨b, off, none⟩ : Addr).add j) = some u := by
  obtain ⟨a', n', c', hv, -, HL, -, HC⟩ := h.ints_open
  simp only [Value.slice.injEq] at hv
  obtain ⟨rfl, rfl, rfl⟩ := hv
  intro j u hu
  have hj : j < zs.length := by
    rcases Nat.lt_or_ge j zs.length with h | h
    · exact h
    · rw [List.getElem?_eq_none (by simpa using h)] at hu; cases hu
  obtain ⟨b', off', he, hx⟩ := HC.out j (by rw [HL.out]; exact hj)
  simp only [Option.some.injEq, Addr.mk.injEq, and_true] at he
  obtain ⟨rfl, rfl⟩ := he
  have h2 := (hx j (by rw [HL.out]; exact hj)).2
  rw [add_mul_spot rfl]
  rw [h2]
  simp [List.getElem?_eq_getElem hj] at hu ⊢
  exact hu
theorem int_one {k : IntKind} {zs : List Int} : ∀ u ∈ zs.map (Value.int k), u.oneCell' = true := by
  intro u hu
  obtain ⟨z, -, rfl⟩ := List.mem_map.1 hu
  rfl

/-- The first j bytes of a checksum. -/
def sumPre (s : Int) (j : Nat) : List Int := (List.range j).map fun i => s / 256 ^ i % 256
theorem sumPre_succ (s : Int) (j : Nat) : sumPre s (j + 1) = sumPre s j ++ [s / 256 ^ j % 256] := by simp [sumPre, List.range_succ]
theorem sumPre_four (s : Int) : sumPre s 4 = sumBytes s := by simp [sumPre, sumBytes, List.range_succ]
theorem sumPre_length (s : Int) (j : Nat) : (sumPre s j).length = j := by simp [sumPre]

set_option maxRecDepth 4000 in
set_option maxHeartbeats 1000000 in
theorem framed_any (kind : Int) (zs : List Int) (b off n c : Nat) (w : World) (hr : Rep w (ints .u8 zs) (.slice (some ⟨b, off, none⟩) n c)) (hk : 0 ≤ kind ∧ kind ≤ 255) (hl : zs.length ≤ 100000000) :
    Calls Try.prog 43 #[.int .u8 kind, .slice (some ⟨b, off, none⟩) n c] w (Framed w kind zs) := by
  have HR := Lib.hid hr
  have HN : Hid (n = zs.length) := by
    obtain ⟨a, len, cap, hv, -, HL, -, -⟩ := hr.ints_open
    simp only [Value.slice.injEq] at hv
    rw [hv.2.1]; exact HL
  have HL := Lib.hid hl
  clear hr hl
  go_enter Try.func43, Try.ntmps43
  go_wp2_with (first
    | (go_at_call 54; refine (frameHead_any w).mono ?_; rintro e w1 ⟨v1, rfl, ho1, hb1⟩; have HO1 := Lib.hid (owns_zero ho1); have HB1 := Lib.hid ((ho1.lt : ∀ k, v1.ownBlock = some k → _)); clear ho1; have _tok1 := trivial)
    | (at_builtin; have _t := HB1; refine wpList_append_grew rfl _ _ 22 rfl 5 (.int .u8 0) 1 1 Try.underlying22 info_u8 rfl (by decide) _ _ _ (HO1.out.alloc _) rfl ⟨w1.heap.size, 0, none⟩ 1 1 [.int .u8 kind] rfl rfl (cell_one_new _ _ _) (by simp [Value.oneCell']) (by simp [headBytes, maxLen]) (by simp [headBytes]) ?_; intro v2 w2 hown2 hg2; have HO2 := Lib.hid hown2; clear hown2 HO1)
    | (at_builtin; have _t := HO2; refine wpList_append_grew rfl _ _ 22 rfl 5 (.int .u8 0) 1 1 Try.underlying22 info_u8 rfl (by decide) _ _ _ HO2.out rfl ⟨b, off, none⟩ n c (zs.map (Value.int .u8)) rfl (by rw [List.length_map, HN.out, Nat.mul_one]) (int_cells (HR.out.below (hg2.newer (hb1.alloc hb1.size _) (fun g hg => (HB1.out g hg).1)).2)) int_one (by have h1 := HN.out; have h2 := HL.out; simp [headBytes, maxLen]; omega) (by have h1 := HN.out; have h2 := HL.out; simp [headBytes]; omega) ?_; intro v3 w3 hown3 hg3; have HO3 := Lib.hid hown3; clear hown3))
  have n2 := hg2.newer (hb1.alloc hb1.size _) (fun g hg => (HB1.out g hg).1)
  have n3 := hg3.newer n2.2 n2.1
  have HN3 := Lib.hid n3; clear n2 n3 hg2 hg3 hb1 HB1 HO2
  have HO3' : Hid (w3.ownsRow 0 5 1 v3 (frameBody kind zs).length ((frameBody kind zs).map (Value.int .u8))) := by
    have h := HO3.out
    have e : headBytes.length + 1 + n = (frameBody kind zs).length := by rw [HN.out]; simp [frameBody]; omega
    rw [e] at h
    simpa [Hid, frameBody] using h
  clear HO3
  have HW : Hid (∀ z ∈ frameBody kind zs, (Lit.int .u8 z).wf = true) := by
    intro z hz
    simp only [frameBody, headBytes, List.mem_append] at hz
    rcases hz with (hz | hz) | hz
    · simp at hz; rcases hz with rfl | rfl | rfl | rfl | rfl <;> decide
    · simp at hz; subst hz; exact WalkArith.wf_u8 hk
    · exact HR.out.ints_wf z hz
  refine (implChecksumOf_any (frameBody kind zs) v3 w3 (rep_of_owns HO3'.out HW.out)).mono ?_
  rintro e w4 ⟨rfl, rfl⟩
  obtain ⟨s, hs⟩ : ∃ s, Hid (s = crcSum (frameBody kind zs)) := ⟨_, rfl⟩
  have hsb := crcSum_bd (frameBody kind zs)
  rw [← hs.out] at hsb ⊢
  obtain ⟨hs1, hs2⟩ := hsb
  go_wp2_with fail
  go_loopw [6, 7, 16] (fun v sv i wr => ∃ (j : Nat) (t : Int), j ≤ 4 ∧ i = .int .i64 j ∧ sv = .int .i64 t ∧ Hid (t = s / 256 ^ j) ∧ 0 ≤ t ∧ t ≤ 4294967295 ∧ Hid (wr.ownsRow 0 5 1 v ((frameBody kind zs).length + j) ((frameBody kind zs ++ sumPre s j).map (Value.int .u8))) ∧ Hid ((∀ g, v.ownBlock = some g → w.heap.size ≤ g) ∧ Below w.heap.size w wr)) (fun _ _ i _ => 4 - (intOf i).toNat)
  case atStart => exact ⟨0, s, by omega, rfl, rfl, Lib.hid (by simp), hs1, hs2, by simpa [sumPre] using HO3', HN3⟩
  case round =>
    obtain ⟨j, t, hj, rfl, rfl, ht, ht1, ht2, ho, hn⟩ := hrel
    have hbl : Hid ((frameBody kind zs).length ≤ 100000010) := by have h2 := HL.out; simp [Hid, frameBody, headBytes]; omega
    by_cases hlt : j < 4
    · go_wp2_with (at_builtin; refine wpList_append_grew rfl _ _ 22 rfl 5 (.int .u8 0) 1 1 Try.underlying22 info_u8 rfl (by decide) _ _ _ (ho.out.alloc _) rfl ⟨wr.heap.size, 0, none⟩ 1 1 [.int .u8 (t % 256)] rfl rfl (cell_one_new _ _ _) (by simp [Value.oneCell']) (by have := hbl.out; simp [maxLen]; omega) (by have := hbl.out; omega) ?_; intro v5 w5 hown5 hg5)
      have n5 := hg5.newer (hn.out.2.alloc hn.out.2.size _) hn.out.1
      go_roundw
      case rel => exact ⟨j + 1, t / 256, by omega, by go_num, rfl, Lib.hid (by rw [ht.out, Int.pow_succ, Int.ediv_ediv_of_nonneg (Int.le_of_lt (Int.pow_pos (by omega)))]), by omega, by omega, Lib.hid (by rw [sumPre_succ, ← ht.out, ← List.append_assoc, List.map_append]; exact hown5), Lib.hid n5⟩
      case measure => simp [intOf]; omega
    · obtain rfl : j = 4 := by omega
      have ho' : Hid (wr.ownsRow w.heap.size 5 1 u6 (frameBytes kind zs).length ((frameBytes kind zs).map (Value.int .u8))) := by
        have h := owns_base ho.out hn.out.1
        have e : frameBytes kind zs = frameBody kind zs ++ sumPre s 4 := by rw [sumPre_four, hs.out]; rfl
        rw [e, List.length_append, sumPre_length]
        exact h
      have hlen : Hid ((frameBytes kind zs).length = zs.length + 10) := by simp [Hid, frameBytes, frameBody, headBytes, sumBytes]
      obtain ⟨m, hm⟩ : ∃ m, Hid (m = (frameBytes kind zs).length) := ⟨_, rfl⟩
      rw [← hm.out] at ho'
      obtain ⟨a6, c6, h6⟩ := owns_slice ho'.out
      subst h6
      clear ho hs
      by_cases hbig : 60000 < m
      · have hb6 : 59990 < zs.length := by have h1 := hm.out; have h2 := hlen.out; omega
        have HB6 := Lib.hid hb6; clear hb6
        go_wp2_with fail
        go_ret2
        refine ⟨hn.out.2, ?_⟩
        rw [if_pos HB6.out]
        rfl
      · have hb6 : ¬ 59990 < zs.length := by have h1 := hm.out; have h2 := hlen.out; omega
        have HB6 := Lib.hid hb6; clear hb6
        go_wp2_with fail
        go_ret2
        refine ⟨hn.out.2, ?_⟩
        rw [if_neg HB6.out]
        exact ⟨_, rfl, by rw [← hm.out]; exact ho'.out⟩
end Go.Proofs.Ytmcnnjelajgkjaa
