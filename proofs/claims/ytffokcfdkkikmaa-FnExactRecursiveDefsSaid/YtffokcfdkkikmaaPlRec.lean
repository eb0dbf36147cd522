/-
  RecursiveDefs: both sides answer alike. No program is in sight.
-/
import Derived.Test.YtffokcfdkkikmaaPlY
import Derived.Test.YtffokcfdkkikmaaModR
namespace Go.Proofs.Ytffokcfdkkikmaa.Ab
set_option linter.unusedVariables false
set_option linter.unusedSimpArgs false
open Go.RowKit

section
variable {b : Book} (hb : b.sz ≤ 1048576) (hv : b.valid = true)
include hv
theorem l170_eq (acc : List Int) (d i x : Int) (hxr : 0 ≤ x ∧ x < (b.defs.length : Int)) : ∀ (post pre out : List Int) (n : Nat), useOf b x = pre ++ post → (∃ p q, out = p ++ x :: q ∧ i = ((List.length p : Nat) : Int)) → out.length + post.length ≤ 1000 →
    s_l37Recursive_l170 (n + (post.length + 1)) b acc d i (uses b) out ((List.length pre : Nat) : Int) = s_l37Recursive_l168 n b acc d (uses b) (addAll out post) (IntKind.i64.wrap (i + 1)) := by
  have hul := use_len hv x hxr
  intro post
  induction post with
  | nil =>
    intro pre out n h ⟨p, q, ho, hi⟩ hl
    rw [show n + (([] : List Int).length + 1) = n + 1 from rfl, s_l37Recursive_l170, hi, at_app ho, bind_some', uses_at x hxr, bind_some', ge_app h]; rfl
  | cons y post ih =>
    intro pre out n h ⟨p, q, ho, hi⟩ hl
    rw [List.length_cons] at hl
    have e : addAll out (y :: post) = addAll (addNew out y) post := rfl
    rw [show n + ((y :: post).length + 1) = (n + (post.length + 1)) + 1 from by rw [List.length_cons]; omega, s_l37Recursive_l170, hi]
    simp only [at_app ho, bind_some', uses_at x hxr, if_pos (lt_app h), at_app h, has_eq out y (by unfold Big; omega), wrap_app h (show (useOf b x).length ≤ Big by unfold Big; omega), e]
    rw [← hi]
    unfold addNew
    by_cases hy : y ∈ out
    · simp only [hy, decide_true, Bool.not_true, Bool.false_eq_true, reduceIte]
      exact ih (pre ++ [y]) out n (next_app h) ⟨p, q, ho, hi⟩ (by omega)
    · simp only [hy, decide_false, Bool.not_false, reduceIte]
      rw [app_ok (by simp [Big]; omega), bind_some']
      exact ih (pre ++ [y]) _ n (next_app h) ⟨p, q ++ [y], by rw [ho]; simp, hi⟩ (by simp; omega)
theorem sCircle (acc : List Int) (d : Int) (hd : 0 ≤ d ∧ d < (b.defs.length : Int)) (n : Nat) (hn : 26 * b.defs.length + 1 ≤ n) :
    ∃ out m, n ≤ m + (26 * b.defs.length + 1) ∧ s_l37Recursive_l168 n b acc d (uses b) (useOf b d) 0 = s_l37Recursive_l168 (m + 1) b acc d (uses b) out ((List.length out : Nat) : Int) ∧ out.Nodup ∧ (∀ x ∈ out, 0 ≤ x ∧ x < (b.defs.length : Int)) ∧ Reach (useOf b) (useOf b d) out := by
  have hk := (def_ok hv).1
  have hr : Rise (useOf b d) := by
    unfold useOf
    split
    · exact putIs_rise (by simp)
    · simp
  exact bfsN (F := fun n l i => s_l37Recursive_l168 n b acc d (uses b) l i) (R := fun m l => s_l37Recursive_l168 (m + 1) b acc d (uses b) l ((List.length l : Nat) : Int)) (useOf b) b.defs.length 26 (use_range hv)
    (fun n out pre post x ho hx hlen => by
      have hul := use_len hv x hx
      refine ⟨n + (24 - (useOf b x).length), by omega, ?_⟩
      show s_l37Recursive_l168 (n + 26) b acc d (uses b) out _ = s_l37Recursive_l168 _ b acc d (uses b) _ _
      rw [show n + 26 = (n + (24 - (useOf b x).length) + ((useOf b x).length + 1)) + 1 from by omega, s_l37Recursive_l168, if_pos (lt_app ho),
        show (0 : Int) = ((List.length ([] : List Int) : Nat) : Int) from rfl, l170_eq hv acc d _ x hx (useOf b x) [] out _ (by simp) ⟨pre, post, ho, rfl⟩ (by omega), wrap_app ho (by unfold Big; omega)]
      simp)
    (fun n out => rfl) (useOf b d) (rise_nodup hr) (use_range hv d hd) n hn
include hb
theorem iCircle (d : Int) (hd : 0 ≤ d ∧ d < (b.defs.length : Int)) : ∃ a, Reach (useOf b) [d] a ∧ i_Book_isRecursive b d = some (a.any fun x => decide (d ∈ useOf b x)) := by
  have hk := (def_ok hv).1
  obtain ⟨out, h4, h5, h6, h7⟩ := iReach_eq hb hv [d] (by simp) (by simpa using hd)
  have hol := nodup_len _ _ (rise_nodup h5) h6
  refine ⟨out, h7, ?_⟩
  unfold i_Book_isRecursive
  rw [h4, bind_some', containsInt out (fun y0 => i_Book_isRecursive_1 y0 b d) (fun x => decide (d ∈ useOf b x)) (by unfold Big; omega) fun x hx => by
    unfold i_Book_isRecursive_1
    have := use_len hv x (h6 x hx)
    rw [usesIn_use hb x (h6 x hx), bind_some', contains_eq _ _ (by unfold Big; omega), bind_some'], bind_some']
end
theorem RecursiveDefs_same (b : Book) (hb : b.sz ≤ 1048576) : ∃ r, s_RecursiveDefs b = some r ∧ i_RecursiveDefs b = some r ∧ r.1.length ≤ Big := by
  obtain ⟨hl, hs, hN⟩ := szs_small (l := b.defs) hb
  unfold s_RecursiveDefs i_RecursiveDefs
  rw [l06Book_eq b hl hs, ValidBook_eq b hl hs, bind_some', bind_some']
  cases hv : b.valid with
  | false => exact ⟨([], 1), by simp, by simp, by simp⟩
  | true =>
    have hk := (def_ok hv).1
    simp only [Bool.not_true, Bool.false_eq_true, reduceIte]
    have loop : ∀ (e r n n' : Nat) (acc : List Int), r + e = b.defs.length → 700 * e + 1 ≤ n → e + 1 ≤ n' → acc.length ≤ r → ∃ res, s_l37Recursive_l142 n b (uses b) acc (r : Int) = some res ∧ i_RecursiveDefs_l2 n' b acc (r : Int) = some (res, 0) ∧ res.length ≤ Big := by
      intro e
      induction e with
      | zero =>
        intro r n n' acc he hn hn' ha
        obtain ⟨n, rfl⟩ : ∃ m, n = m + 1 := ⟨n - 1, by omega⟩
        obtain ⟨n', rfl⟩ : ∃ m, n' = m + 1 := ⟨n' - 1, by omega⟩
        rw [s_l37Recursive_l142, i_RecursiveDefs_l2, if_neg (by simp; omega), if_neg (by simp; omega)]
        exact ⟨_, rfl, rfl, by unfold Big; omega⟩
      | succ e ih =>
        intro r n n' acc he hn hn' ha
        obtain ⟨n, rfl⟩ : ∃ m, n = m + 1 := ⟨n - 1, by omega⟩
        obtain ⟨n', rfl⟩ : ∃ m, n' = m + 1 := ⟨n' - 1, by omega⟩
        have hr : 0 ≤ (r : Int) ∧ (r : Int) < (b.defs.length : Int) := by omega
        have hul := use_len hv _ hr
        obtain ⟨out, m, hm, h1, h2, h3, h4⟩ := sCircle hv acc (r : Int) hr n (by omega)
        obtain ⟨a, h5, h6⟩ := iCircle hb hv (r : Int) hr
        have hol := nodup_len _ _ h2 h3
        have hiff := circle_iff h5 h4
        have hany : (a.any fun x => decide ((r : Int) ∈ useOf b x)) = decide ((r : Int) ∈ out) := by
          rw [Bool.eq_iff_iff, List.any_eq_true, decide_eq_true_iff, hiff]
          simp
        rw [s_l37Recursive_l142, i_RecursiveDefs_l2, if_pos (by simp; omega), if_pos (by simp; omega), uses_at _ hr, bind_some', s_l00Own, app_ok (by simp [Big]; omega), bind_some', bind_some', List.nil_append, h1, h6, bind_some', hany,
          s_l37Recursive_l168, if_neg (by simp), has_eq _ _ (by unfold Big; omega), bind_some', w64n1 (by unfold Big; omega)]
        by_cases h : (r : Int) ∈ out
        · simp only [h, decide_true, reduceIte]
          rw [app_ok (by simp [Big]; omega), bind_some', bind_some']
          exact ih (r + 1) m n' _ (by omega) (by omega) (by omega) (by simp; omega)
        · simp only [h, decide_false, Bool.false_eq_true, reduceIte]
          exact ih (r + 1) m n' acc (by omega) (by omega) (by omega) (by omega)
    obtain ⟨res, h1, h2, h3⟩ := loop b.defs.length 0 fuel fuel [] (by omega) (by rw [fuel_eq]; omega) (by rw [fuel_eq]; omega) (by simp)
    refine ⟨(res, 0), ?_, h2, h3⟩
    unfold s_l37Recursive
    rw [sUses_eq b hb, bind_some']
    show Option.bind (s_l37Recursive_l142 fuel b (uses b) [] ((0 : Nat) : Int)) _ = _
    rw [h1, bind_some']
end Go.Proofs.Ytffokcfdkkikmaa.Ab
