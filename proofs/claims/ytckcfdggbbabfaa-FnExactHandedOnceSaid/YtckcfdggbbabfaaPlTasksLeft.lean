/-
  The tasks that are left in a deque: both sides answer alike. No program is in sight.
-/
import Derived.Test.YtckcfdggbbabfaaPlDeq
import Derived.Test.YtckcfdggbbabfaaPlTU
namespace Go.Proofs.Ytckcfdggbbabfaa.Ab
set_option linter.unusedVariables false
set_option linter.unusedSimpArgs false
open Go.RowKit

/-- The place of a task in the buffer. -/
def slot (n : Nat) (p : Int) : Int := Int.tmod (IntKind.i64.wrap (Int.tmod p (n : Int) + (n : Int))) (n : Int)
theorem slot_ok {n : Nat} {p : Int} (hn : 1 ≤ n) (hn8 : n ≤ 8) (hp : 0 ≤ p) : 0 ≤ slot n p ∧ slot n p < (n : Int) := by
  have h1 : 0 ≤ Int.tmod p (n : Int) := Int.tmod_nonneg _ hp
  have h2 : Int.tmod p (n : Int) < (n : Int) := Int.tmod_lt_of_pos _ (by omega)
  unfold slot
  rw [w64 (by omega) (by omega)]
  exact ⟨Int.tmod_nonneg _ (by omega), Int.tmod_lt_of_pos _ (by omega)⟩
theorem at_in {α : Type} {l : List α} {i : Int} (h : 0 ≤ i ∧ i < (l.length : Int)) : ∃ x, at? l i = some x := by
  unfold at?
  have : i.toNat < l.length := by omega
  exact ⟨l[i.toNat], by simp [h.1, this]⟩
theorem nz_ok {b : Int} (h : b ≠ 0) : nz? b = some () := by unfold nz?; rw [if_neg h]
theorem left_loop (d : Deque) (hn : 1 ≤ d.buffer.length) (hn8 : d.buffer.length ≤ 8) (hb : d.bottom ≤ 1000) : ∀ (m : Nat) (p : Int) (acc : List Int) (n n' : Nat), 0 ≤ p → p ≤ 1000 → (d.bottom - p).toNat = m → m < n → m < n' → acc.length + m ≤ 2000 →
    ∃ r, s_l23Left_l2 n d acc p = some r ∧ i_Deque_tasksLeft_l1 n' d acc p = some r ∧ r.length ≤ 2000 := by
  intro m
  induction m with
  | zero =>
    intro p acc n n' h0 h1 hm hl hl' ha
    obtain ⟨n, rfl⟩ : ∃ m, n = m + 1 := ⟨n - 1, by omega⟩
    obtain ⟨n', rfl⟩ : ∃ m, n' = m + 1 := ⟨n' - 1, by omega⟩
    have : ¬ p < d.bottom := by omega
    rw [s_l23Left_l2, i_Deque_tasksLeft_l1, decide_eq_false this, if_neg (by simp), if_neg (by simp)]
    exact ⟨acc, rfl, rfl, by omega⟩
  | succ m ih =>
    intro p acc n n' h0 h1 hm hl hl' ha
    obtain ⟨n, rfl⟩ : ∃ m, n = m + 1 := ⟨n - 1, by omega⟩
    obtain ⟨n', rfl⟩ : ∃ m, n' = m + 1 := ⟨n' - 1, by omega⟩
    have hlt : p < d.bottom := by omega
    obtain ⟨s1, s2⟩ := slot_ok hn hn8 h0
    obtain ⟨x, hx⟩ := at_in (l := d.buffer) ⟨s1, s2⟩
    have hz : nz? ((List.length d.buffer : Nat) : Int) = some () := nz_ok (by omega)
    have hs : s_l23At d p = some (slot d.buffer.length p) := by unfold s_l23At; rw [hz]; rfl
    have hi : i_Deque_place d p = some x := by
      unfold i_Deque_place
      rw [hz, bind_some', bind_some']
      show Option.bind (at? d.buffer (slot d.buffer.length p)) _ = _
      rw [hx]; rfl
    have hap : app? acc [x] = some (acc ++ [x]) := app_ok (by unfold Big; simp; omega)
    have hw : IntKind.i64.wrap (p + 1) = p + 1 := w64 (by omega) (by omega)
    rw [s_l23Left_l2, i_Deque_tasksLeft_l1, decide_eq_true hlt, if_pos rfl, if_pos rfl, hs, hi, bind_some', bind_some', hx, bind_some', hap, bind_some', bind_some', hw]
    exact ih (p + 1) (acc ++ [x]) n n' (by omega) (by omega) (by omega) (by omega) (by omega) (by simp; omega)
theorem Deque.small_of (d : Deque) (h : d.sz ≤ Big) : d.buffer.length ≤ Big ∧ d.actors.length ≤ Big ∧ d.taken.length ≤ Big ∧ d.refused.length ≤ Big := by
  unfold Deque.sz at h
  have := szl_len DequeActor.sz d.actors
  exact ⟨by omega, by omega, by omega, by omega⟩
theorem left_eq (d : Deque) (h : deqB d = true) : ∃ r, s_l23Left d = some r ∧ i_Deque_tasksLeft d = some r ∧ r.length ≤ 2000 := by
  unfold deqB endB at h
  simp only [Bool.and_eq_true, decide_eq_true_eq] at h
  obtain ⟨⟨h1, h2⟩, ⟨h3, h4⟩, ⟨h5, h6⟩, -⟩ := h
  exact left_loop d h1 h2 h6 (d.bottom - d.top).toNat d.top [] fuel fuel h3 h4 rfl (by rw [fuel_eq]; omega) (by rw [fuel_eq]; omega) (by simp; omega)
end Go.Proofs.Ytckcfdggbbabfaa.Ab
