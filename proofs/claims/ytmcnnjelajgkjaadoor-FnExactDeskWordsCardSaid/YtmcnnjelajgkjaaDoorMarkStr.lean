/-
  The laws' markStringS and heldStringS.
-/
import Derived.Test.YtmcnnjelajgkjaaDoorRows
import Derived.Test.YtmcnnjelajgkjaaDoorMarkText
namespace Go.Proofs.YtmcnnjelajgkjaaDoor
set_option linter.unusedVariables false
open Go.RowKit

def smarks (k n : Nat) : List ByteArray := (List.range n).map fun i => mtext (k + i)
theorem smarks_length (k n : Nat) : (smarks k n).length = n := by simp [smarks]
theorem smarks_get {k n i : Nat} (h : i < n) : (smarks k n)[i]? = some (mtext (k + i)) := by simp [smarks, h]
theorem smarks_step {k n i : Nat} {cs : List Value} (hl : n ≤ cs.length) (hi : i < n) (h : cs.take i = (smarks k i).map Value.string) : (cs.set i (.string (mtext (k + i)))).take (i + 1) = (smarks k (i + 1)).map Value.string := by
  rw [List.take_succ_eq_append_getElem (by simp; omega), List.take_set, List.set_eq_of_length_le (by simp; omega), h]
  simp [smarks, List.range_succ]
theorem own_strs_nil {w : World} : ∀ {ss : List ByteArray} {vs : List Value} {fp : List Nat}, OwnR w 1 vs (ss.map fun s => [D.str s]) fp → fp = []
  | [], _, _, h => by simp only [List.map_nil, OwnR] at h; exact h.2
  | s :: ss, _, _, h => by
    simp only [List.map_cons, OwnR, OwnC, Own] at h
    obtain ⟨v1, v2, f1, f2, -, -, ⟨v, vs', g1, g2, -, ⟨-, -, rfl⟩, ⟨-, rfl⟩, rfl⟩, h2, rfl⟩ := h
    exact own_strs_nil h2
theorem own_row_strs {w : World} : ∀ {xs : List ByteArray}, (∀ x ∈ xs, x.size ≤ maxLen) → OwnR w 1 (xs.map Value.string) (xs.map fun s => [D.str s]) []
  | [], _ => ⟨rfl, rfl⟩
  | x :: xs, h => by
    simp only [List.map_cons, OwnR]
    exact ⟨[.string x], _, [], [], rfl, rfl, OwnC.cons0 (own_str (h x (by simp))) (OwnC.nil0 w), own_row_strs fun y hy => h y (by simp [hy]), rfl⟩

set_option maxRecDepth 4000 in
set_option maxHeartbeats 400000 in
theorem markStringS_any (ss : List ByteArray) (v : Value) (fp : List Nat) (k : Nat) (w : World) (ho : Own w (strs ss) v fp) (hk : k + ss.length ≤ 1099511627776) :
    Calls Tryd.prog 7 #[v, .int .i64 k] w fun e w' => e = .returned (.int .i64 ((k + ss.length : Nat) : Int)) ∧ Own w' (strs (smarks k ss.length)) v fp ∧ Only fp w w' := by
  have ho' := ho
  simp only [strs, Own] at ho'
  obtain ⟨e, vs, fps, hrow, hr, rfl⟩ := ho'
  obtain rfl := own_strs_nil hr
  rcases Blk.of_owns hrow with ⟨rfl, hn, -⟩ | ⟨g, cap, rest, rfl, hg, hb, hn, hc, h1, h2⟩
  · have : ss = [] := List.eq_nil_of_length_eq_zero (by simpa using hn)
    subst this
    clear ho hrow hr
    go_enter Tryd.func7, Tryd.ntmps7
    go_wp2
    go_loop [1, 5] (fun kk i => i = .int .i64 0 ∧ kk = .int .i64 k) (fun _ _ => 0)
    case atStart => exact ⟨rfl, rfl⟩
    case round =>
      obtain ⟨rfl, rfl⟩ := hrel
      go_wp2
      go_ret
      exact ⟨by simp, Own.nil _ _, Only.refl _ _⟩
  · rw [List.length_map] at hn h1
    obtain ⟨n, hN⟩ : ∃ n, Hid (ss.length = n) := ⟨_, rfl⟩
    rw [List.length_map, hN.out]
    rw [hN.out] at hn h1 hk
    show Calls _ _ _ _ fun e w' => _ ∧ Own w' _ _ [g] ∧ Only [g] w w'
    clear ho hrow hr hg
    have HB := Lib.hid hb; clear hb
    have HC := Lib.hid (And.intro hn (And.intro hc (And.intro h1 h2))); clear hn hc h1 h2
    go_enter Tryd.func7, Tryd.ntmps7
    go_wp2_with fail
    go_loopw [1, 5] (fun kk i wr => ∃ (j : Nat) (cs : List Value), j ≤ n ∧ i = .int .i64 j ∧ kk = .int .i64 ((k + j : Nat) : Int) ∧ Hid (Blk wr g e (cs ++ rest)) ∧ Hid (cs.length = n) ∧ Hid (cs.take j = (smarks k j).map Value.string) ∧ Hid (Only [g] w wr)) (fun _ i _ => n - (intOf i).toNat)
    case atStart => exact ⟨0, vs, Nat.zero_le _, rfl, by simp, HB, Lib.hid (by simpa using HC.out.2.2.1), Lib.hid (by simp [smarks]), Lib.hid (Only.refl _ _)⟩
    case round =>
      obtain ⟨j, cs, hj, rfl, rfl, hb, hcl, hcs, hon⟩ := hrel
      by_cases hlt : j < n
      · go_wp2_with fail
        refine (markText_any (k + j) (by omega) _).mono ?_
        rintro e2 w1 ⟨rfl, hb1⟩
        have B1 : Blk w1 g e (cs ++ rest) := hb.out.below hb1 hb.out.lt
        obtain ⟨u, hu⟩ : ∃ u, w1.cell? ⟨g, j, none⟩ = some u := by rw [B1.cell, List.getElem?_eq_getElem (by simp [hcl.out]; omega)]; exact ⟨_, rfl⟩
        have hfree := B1.free j
        have HB1 := Lib.hid B1; clear B1
        have hon1 : Hid (Only [g] w w1) := hon.out.trans (Only.of_below hb1 _)
        clear hb1
        obtain ⟨m, hm⟩ : ∃ m, mtext (k + j) = m := ⟨_, rfl⟩
        rw [hm]
        have HM := Lib.hid hm; clear hm
        go_wp2_with fail
        go_roundw
        case rel =>
          refine ⟨j + 1, cs.set j (.string m), by omega, by go_num, by go_num, ?_, Lib.hid (by simpa using hcl.out), Lib.hid (by rw [← HM.out]; exact smarks_step (by rw [hcl.out]; exact Nat.le_refl _) hlt hcs.out), Lib.hid (hon1.out.setCell (by simp) _)⟩
          have h := HB1.out.set j (.string m)
          rw [List.set_append_left _ _ (by rw [hcl.out]; exact hlt)] at h
          exact h
        case measure => simp [intOf]; omega
      · go_wp2_with fail
        go_ret
        obtain rfl : j = n := by omega
        have h1 := hcs.out
        rw [List.take_of_length_le (by rw [hcl.out]; exact Nat.le_refl _)] at h1
        subst h1
        refine ⟨rfl, ?_, hon.out⟩
        exact Own.of_blk hb.out (own_row_strs fun x hx => by
          simp only [smarks, List.mem_map, List.mem_range] at hx
          obtain ⟨i, hi, rfl⟩ := hx
          have := mtext_size (k + i)
          unfold maxLen; omega) (by simp [smarks_length]) (by have := HC.out; simp [smarks_length] at *; omega) (by have := HC.out.2.1; omega) (by have := HC.out.2.2; simp [smarks_length] at *; omega)
end Go.Proofs.YtmcnnjelajgkjaaDoor
