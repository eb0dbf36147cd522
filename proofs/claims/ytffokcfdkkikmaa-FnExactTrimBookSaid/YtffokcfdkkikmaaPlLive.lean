/-
  Definitions that are reached from one: the reference's rounds; DeadDefs: both sides answer alike. No program is in sight.
-/
import Derived.Test.YtffokcfdkkikmaaPlY
import Derived.Test.YtffokcfdkkikmaaModX
namespace Go.Proofs.Ytffokcfdkkikmaa.Ab
set_option linter.unusedVariables false
set_option linter.unusedSimpArgs false
open Go.RowKit

theorem code_eq (b : Book) (m : Int) (hb : b.sz ≤ 1048576) : s_l35Code b m = some (if b.valid = true then (if 0 ≤ m ∧ m < (b.defs.length : Int) then 0 else 2) else 1) ∧ i_hasDefinition b m = some (if b.valid = true then (if 0 ≤ m ∧ m < (b.defs.length : Int) then 0 else 2) else 1) := by
  obtain ⟨hl, hs, hN⟩ := szs_small (l := b.defs) hb
  have hl' : b.defs.length ≤ 1048576 := Nat.le_trans (Core.len_szs b.defs) hb
  have hw : IntKind.i64.wrap (((List.length b.defs : Nat) : Int) - 1) = (b.defs.length : Int) - 1 := w64 (by omega) (by omega)
  constructor
  · unfold s_l35Code
    rw [l06Book_eq b hl hs, bind_some', hw, l00In_eq, bind_some']
    cases hv : b.valid with
    | false => simp
    | true =>
      by_cases h : 0 ≤ m ∧ m < (b.defs.length : Int)
      · have h' : 0 ≤ m ∧ m ≤ (b.defs.length : Int) - 1 := by omega
        simp [h, h']
      · have h' : ¬ (0 ≤ m ∧ m ≤ (b.defs.length : Int) - 1) := by omega
        simp only [h', h, decide_false, Bool.not_true, Bool.not_false, Bool.false_eq_true, reduceIte]
  · unfold i_hasDefinition i_atMost
    have hc : g_ContainsFunc_sint64 [m] (fun y0 => i_atMost_1 y0 ((b.defs.length : Int) - 1)) = some ([m].any fun y => decide (y < 0 ∨ (b.defs.length : Int) - 1 < y)) :=
      containsInt [m] _ _ (by simp [Big]) fun x _ => by
        unfold i_atMost_1
        by_cases h : x < 0 <;> simp [h]
    rw [ValidBook_eq b hl hs, bind_some', hw, hc, bind_some', bind_some']
    cases hv : b.valid with
    | false => simp
    | true =>
      by_cases h : 0 ≤ m ∧ m < (b.defs.length : Int)
      · have h' : ¬ (m < 0 ∨ (b.defs.length : Int) - 1 < m) := by omega
        simp [h, h']
      · have h' : m < 0 ∨ (b.defs.length : Int) - 1 < m := by omega
        simp only [List.any_cons, List.any_nil, Bool.or_false, h', decide_true, h, Bool.not_true, Bool.not_false, Bool.false_eq_true, reduceIte]
section
variable {b : Book} (hb : b.sz ≤ 1048576) (hv : b.valid = true)
include hv
theorem rise_small {l : List Int} (h : Rise l) (hr : ∀ x ∈ l, 0 ≤ x ∧ x < (b.defs.length : Int)) : l.length ≤ 24 := Nat.le_trans (nodup_len _ _ (rise_nodup h) hr) (def_ok hv).1
theorem l86_eq (r i x : Int) (now : List Int) (hx : at? now i = some x) (hxr : 0 ≤ x ∧ x < (b.defs.length : Int)) : ∀ (post pre out : List Int) (n : Nat), useOf b x = pre ++ post → Rise out → (∀ y ∈ out, 0 ≤ y ∧ y < (b.defs.length : Int)) →
    s_l35Live_l86 (n + (post.length + 1)) b r i (uses b) now out ((List.length pre : Nat) : Int) = s_l35Live_l84 n b r (uses b) now (putIs out post) (IntKind.i64.wrap (i + 1)) := by
  have hul := use_len hv x hxr
  intro post
  induction post with
  | nil =>
    intro pre out n h ho hr
    rw [show n + (([] : List Int).length + 1) = n + 1 from rfl, s_l35Live_l86, hx, bind_some', uses_at x hxr, bind_some', ge_app h]; rfl
  | cons y post ih =>
    intro pre out n h ho hr
    have hy : y ∈ useOf b x := by rw [h]; simp
    have hyr := use_range hv x hxr y hy
    have hol := rise_small hv ho hr
    rw [show n + ((y :: post).length + 1) = (n + (post.length + 1)) + 1 from by rw [List.length_cons]; omega, s_l35Live_l86, hx, bind_some', uses_at x hxr, bind_some', if_pos (lt_app h), bind_some', uses_at x hxr, bind_some', at_app h, bind_some', l00Put_eq _ _ (by unfold Big; omega), bind_some', wrap_app h (by unfold Big; omega),
      ih (pre ++ [y]) _ n (next_app h) (putI_rise ho) fun z hz => by
        rcases putI_mem.1 hz with rfl | hz
        · exact hyr
        · exact hr z hz]
    rfl
theorem l84_eq (r : Int) (now : List Int) (hnow : Rise now) (hnr : ∀ y ∈ now, 0 ≤ y ∧ y < (b.defs.length : Int)) : ∀ (post pre out : List Int) (n : Nat), now = pre ++ post → Rise out → (∀ y ∈ out, 0 ≤ y ∧ y < (b.defs.length : Int)) →
    ∃ m, n ≤ m ∧ s_l35Live_l84 (n + (26 * post.length + 1)) b r (uses b) now out ((List.length pre : Nat) : Int) = s_l35Live_l72 m b (uses b) (post.foldl (fun o x => putIs o (useOf b x)) out) (IntKind.i64.wrap (r + 1)) := by
  have hnl := rise_small hv hnow hnr
  intro post
  induction post with
  | nil =>
    intro pre out n h ho hr
    refine ⟨n, Nat.le_refl _, ?_⟩
    rw [show n + (26 * ([] : List Int).length + 1) = n + 1 from rfl, s_l35Live_l84, ge_app h]; rfl
  | cons x post ih =>
    intro pre out n h ho hr
    have hxr := hnr x (by rw [h]; simp)
    have hul := use_len hv x hxr
    obtain ⟨m, hm, e⟩ := ih (pre ++ [x]) (putIs out (useOf b x)) (n + (24 - (useOf b x).length)) (next_app h) (putIs_rise ho) fun z hz => by
      rcases putIs_mem.1 hz with hz | hz
      · exact hr z hz
      · exact use_range hv x hxr z hz
    refine ⟨m, by omega, ?_⟩
    rw [show n + (26 * (x :: post).length + 1) = (n + (24 - (useOf b x).length) + (26 * post.length + 1) + ((useOf b x).length + 1)) + 1 from by rw [List.length_cons]; omega, s_l35Live_l84, if_pos (lt_app h),
      show (0 : Int) = ((List.length ([] : List Int) : Nat) : Int) from rfl, l86_eq hv r _ x now (at_app h) hxr (useOf b x) [] out _ (by simp) ho hr, wrap_app h (by unfold Big; omega), e]
    rfl
theorem l72_eq : ∀ (d r n : Nat) (l : List Int), r + d = b.defs.length → Rise l → (∀ y ∈ l, 0 ≤ y ∧ y < (b.defs.length : Int)) → 627 * d + 1 ≤ n → s_l35Live_l72 n b (uses b) l (r : Int) = some (rounds (useOf b) d l) := by
  have hk := (def_ok hv).1
  intro d
  induction d with
  | zero =>
    intro r n l hd ho hr hn
    obtain ⟨n, rfl⟩ : ∃ m, n = m + 1 := ⟨n - 1, by omega⟩
    rw [s_l35Live_l72, if_neg (by simp; omega), rounds]
  | succ d ih =>
    intro r n l hd ho hr hn
    have hll := rise_small hv ho hr
    obtain ⟨m, hm, e⟩ := l84_eq hv (r : Int) l ho hr l [] l (n - (26 * l.length + 1) - 1) (by simp) ho hr
    obtain ⟨n, rfl⟩ : ∃ m, n = m + 1 := ⟨n - 1, by omega⟩
    have e1 : n = (n + 1 - (26 * l.length + 1) - 1) + (26 * l.length + 1) := by omega
    rw [s_l35Live_l72, if_pos (by simp; omega), s_l00Own, app_ok (by simp [Big]; omega), bind_some', bind_some', List.nil_append, e1]
    rw [show ((List.length ([] : List Int) : Nat) : Int) = 0 from rfl] at e
    rw [e, w64n1 (by unfold Big; omega)]
    have hrd : ∀ z ∈ round (useOf b) l, 0 ≤ z ∧ z < (b.defs.length : Int) := fun z hz => by
      rcases fold_mem.1 hz with hz | ⟨y, hy, hz⟩
      · exact hr z hz
      · exact use_range hv y (hr y hy) z hz
    exact ih (r + 1) m (round (useOf b) l) (by omega) (fold_rise ho) hrd (by omega)
include hb
theorem live_eq (m : Int) (hm : 0 ≤ m ∧ m < (b.defs.length : Int)) : ∃ l, s_l35Live b m = some l ∧ i_Book_reachableFrom b [m] = some l ∧ Rise l ∧ (∀ x ∈ l, 0 ≤ x ∧ x < (b.defs.length : Int)) ∧ Reach (useOf b) [m] l := by
  have hk := (def_ok hv).1
  obtain ⟨h1, h2, h3⟩ := rounds_reach (useOf b) b.defs.length (use_range hv) m hm
  obtain ⟨out, h4, h5, h6, h7⟩ := iReach_eq hb hv [m] (by simp) (by simpa using hm)
  have e : out = rounds (useOf b) b.defs.length [m] := rise_ext h5 h1 (h7.ext h3)
  subst e
  refine ⟨_, ?_, h4, h5, h6, h7⟩
  unfold s_l35Live
  rw [sUses_eq b hb, bind_some']
  exact l72_eq hv b.defs.length 0 fuel [m] (by omega) (by simp) (by simpa using hm) (by rw [fuel_eq]; omega)
end
theorem DeadDefs_same (b : Book) (m : Int) (hb : b.sz ≤ 1048576) : ∃ r, s_DeadDefs b m = some r ∧ i_DeadDefs b m = some r ∧ r.1.length ≤ Big := by
  obtain ⟨hc1, hc2⟩ := code_eq b m hb
  unfold s_DeadDefs i_DeadDefs
  rw [hc1, hc2, bind_some', bind_some']
  cases hv : b.valid with
  | false => exact ⟨([], 1), by simp, by simp, by simp⟩
  | true =>
    by_cases hm : 0 ≤ m ∧ m < (b.defs.length : Int)
    · have hk := (def_ok hv).1
      obtain ⟨l, h1, h2, h3, h4, -⟩ := live_eq hb hv m hm
      have hll := rise_small hv h3 h4
      rw [h1, h2]
      simp only [if_pos hm, decide_true, Bool.not_true, Bool.false_eq_true, reduceIte, bind_some']
      have loop : ∀ (d r n : Nat) (acc : List Int), r + d = b.defs.length → d + 1 ≤ n → acc.length ≤ r → ∃ res, s_DeadDefs_l2 n b l acc (r : Int) = some res ∧ i_DeadDefs_l2 n b l acc (r : Int) = some res ∧ res.1.length ≤ Big := by
        intro d
        induction d with
        | zero =>
          intro r n acc hd hn ha
          obtain ⟨n, rfl⟩ : ∃ m, n = m + 1 := ⟨n - 1, by omega⟩
          rw [s_DeadDefs_l2, i_DeadDefs_l2, if_neg (by simp; omega), if_neg (by simp; omega)]
          exact ⟨_, rfl, rfl, by unfold Big; show acc.length ≤ _; omega⟩
        | succ d ih =>
          intro r n acc hd hn ha
          obtain ⟨n, rfl⟩ : ∃ m, n = m + 1 := ⟨n - 1, by omega⟩
          rw [s_DeadDefs_l2, i_DeadDefs_l2, if_pos (by simp; omega), if_pos (by simp; omega), has_eq _ _ (by unfold Big; omega), contains_eq _ _ (by unfold Big; omega), bind_some', bind_some', w64n1 (by unfold Big; omega)]
          by_cases h : (r : Int) ∈ l
          · simp only [h, decide_true, Bool.not_true, Bool.false_eq_true, reduceIte]
            exact ih (r + 1) n acc (by omega) (by omega) (by omega)
          · simp only [h, decide_false, Bool.not_false, reduceIte]
            rw [app_ok (by simp [Big]; omega), bind_some']
            exact ih (r + 1) n _ (by omega) (by omega) (by simp; omega)
      exact loop b.defs.length 0 fuel [] (by omega) (by rw [fuel_eq]; omega) (by simp)
    · exact ⟨([], 2), by simp [hm], by simp [hm], by simp⟩
end Go.Proofs.Ytffokcfdkkikmaa.Ab
