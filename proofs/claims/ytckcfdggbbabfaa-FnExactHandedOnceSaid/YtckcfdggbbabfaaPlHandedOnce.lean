/-
  HandedOnce: both sides answer alike. No program is in sight.
-/
import Derived.Test.YtckcfdggbbabfaaModH
import Derived.Test.YtckcfdggbbabfaaPlTasksLeft
namespace Go.Proofs.Ytckcfdggbbabfaa.Ab
set_option linter.unusedVariables false
set_option linter.unusedSimpArgs false
open Go.RowKit

abbrev Up (l : List Int) : Prop := l.Pairwise (· ≤ ·)
theorem up_ext {a b : List Int} (ha : Up a) (hb : Up b) (h : a.Perm b) : a = b :=
  List.Perm.eq_of_pairwise (le := (· ≤ ·)) (fun x y _ _ h1 h2 => Int.le_antisymm h1 h2) ha hb h
theorem sortI_up (l : List Int) : Up (sortI l) := by
  have := List.pairwise_mergeSort (le := fun x y : Int => decide (x ≤ y)) (by intro a b c h1 h2; simp only [decide_eq_true_eq] at *; omega) (by intro a b; simp only [Bool.or_eq_true, decide_eq_true_eq]; omega) l
  exact this.imp fun h => by simpa using h
theorem sortI_perm (l : List Int) : (sortI l).Perm l := List.mergeSort_perm _ _
theorem sortI_of {a l : List Int} (ha : Up a) (h : a.Perm l) : a = sortI l := up_ext ha (sortI_up l) (h.trans (sortI_perm l).symm)
theorem set1_at {A B : List Int} {x y : Int} {l : List Int} (h : l = A ++ x :: B) : set1? l ((A.length : Nat) : Int) y = some (A ++ y :: B) := by
  subst h
  unfold set1?
  have h1 : (0 : Int) ≤ ((A.length : Nat) : Int) := by omega
  simp [h1, set?]

/-! The spec's sort puts each number to its place. -/
theorem sInner (i : Int) (post : List Int) : ∀ (m : Nat) (A : List Int), A.length = m → ∀ (x : Int) (B : List Int) (n : Nat), (A ++ x :: (B ++ post)).length ≤ Big → Up (A ++ B) → (∀ b ∈ B, x ≤ b) → 2 * m + 2 ≤ n →
    ∃ L n', Up L ∧ L.Perm (A ++ x :: B) ∧ n ≤ n' + 2 * m + 2 ∧ s_l23Sorted_l49 n i (A ++ x :: (B ++ post)) ((A.length : Nat) : Int) = s_l23Sorted_l42 n' (L ++ post) (IntKind.i64.wrap (i + 1)) := by
  intro m
  induction m with
  | zero =>
    intro A hA x B n hl hs hb hn
    obtain rfl := List.eq_nil_of_length_eq_zero hA
    obtain ⟨n, rfl⟩ : ∃ m, n = m + 2 := ⟨n - 2, by omega⟩
    refine ⟨x :: B, n, List.pairwise_cons.2 ⟨hb, by simpa using hs⟩, .refl _, by omega, ?_⟩
    rw [s_l23Sorted_l49]
    simp only [List.length_nil, Int.natCast_zero, Int.lt_irrefl, decide_false, Bool.false_eq_true, if_false, List.nil_append, List.cons_append]
    rw [s_l23Sorted_j50]
    simp only [Bool.false_eq_true, if_false]
  | succ m ih =>
    intro A hA x B n hl hs hb hn
    obtain ⟨A', y, rfl⟩ : ∃ A' y, A = A' ++ [y] := ⟨A.dropLast, A.getLast (by intro h; rw [h] at hA; cases hA), (List.dropLast_concat_getLast _).symm⟩
    have hA' : A'.length = m := by simpa using hA
    obtain ⟨n, rfl⟩ : ∃ m, n = m + 2 := ⟨n - 2, by omega⟩
    have hlB : A'.length + 1 + (1 + (B.length + post.length)) ≤ Big := by simp only [List.length_append, List.length_cons, List.length_nil] at hl; omega
    have hw : IntKind.i64.wrap ((((A' ++ [y]).length : Nat) : Int) - 1) = ((A'.length : Nat) : Int) := by
      simp only [List.length_append, List.length_cons, List.length_nil]
      rw [w64 (by omega) (by unfold Big at hlB; omega)]; omega
    have e1 : (A' ++ [y]) ++ x :: (B ++ post) = A' ++ y :: (x :: (B ++ post)) := by simp
    have a1 : at? ((A' ++ [y]) ++ x :: (B ++ post)) ((A'.length : Nat) : Int) = some y := at_app e1
    have a2 : at? ((A' ++ [y]) ++ x :: (B ++ post)) (((A' ++ [y]).length : Nat) : Int) = some x := at_app rfl
    have a3 : set1? ((A' ++ [y]) ++ x :: (B ++ post)) (((A' ++ [y]).length : Nat) : Int) y = some ((A' ++ [y]) ++ y :: (B ++ post)) := set1_at rfl
    have e2 : (A' ++ [y]) ++ y :: (B ++ post) = A' ++ y :: (y :: (B ++ post)) := by simp
    have a4 : at? ((A' ++ [y]) ++ y :: (B ++ post)) ((A'.length : Nat) : Int) = some y := at_app e2
    have a5 : set1? ((A' ++ [y]) ++ y :: (B ++ post)) ((A'.length : Nat) : Int) x = some (A' ++ x :: (y :: (B ++ post))) := set1_at e2
    have hpos : decide ((0 : Int) < (((A' ++ [y]).length : Nat) : Int)) = true := by rw [decide_eq_true_eq]; omega
    rw [s_l23Sorted_l49, if_pos hpos, hw, a1, bind_some', a2, bind_some', s_l23Sorted_j50]
    by_cases hxy : x < y
    · rw [decide_eq_true hxy, if_pos rfl, hw, a1, a2, bind_some', bind_some', bind_some', a3, bind_some', a4, bind_some', a5, bind_some']
      have hs' : Up (A' ++ (y :: B)) := by simpa using hs
      obtain ⟨L, n', h1, h2, h3, h4⟩ := ih A' hA' x (y :: B) n (by simp only [List.length_append, List.length_cons]; omega) hs' (fun b hb' => by
        rcases List.mem_cons.1 hb' with rfl | hb'
        · omega
        · exact hb b hb') (by omega)
      refine ⟨L, n', h1, h2.trans ?_, by omega, h4⟩
      rw [List.append_assoc]
      exact List.Perm.append_left A' (List.Perm.swap _ _ _)
    · rw [decide_eq_false hxy]
      refine ⟨(A' ++ [y]) ++ x :: B, n, ?_, .refl _, by omega, ?_⟩
      · obtain ⟨p1, p2, p3⟩ := List.pairwise_append.1 hs
        obtain ⟨q1, q2, q3⟩ := List.pairwise_append.1 p1
        refine List.pairwise_append.2 ⟨p1, List.pairwise_cons.2 ⟨hb, p2⟩, fun a ha b hb' => ?_⟩
        rcases List.mem_cons.1 hb' with rfl | hb'
        · rcases List.mem_append.1 ha with ha | ha
          · have := q3 a ha y (by simp); omega
          · obtain rfl : a = y := by simpa using ha
            omega
        · exact p3 a ha b hb'
      · simp only [Bool.false_eq_true, if_false, List.append_assoc, List.cons_append]
theorem sOuter (C : Nat) (hC : 8010 ≤ C) : ∀ (post pre : List Int) (n : Nat), Up pre → 1 ≤ pre.length → (pre ++ post).length ≤ 4000 → post.length * C + 1 ≤ n →
    ∃ r, s_l23Sorted_l42 n (pre ++ post) ((pre.length : Nat) : Int) = some r ∧ Up r ∧ r.Perm (pre ++ post) := by
  intro post
  induction post with
  | nil =>
    intro pre n hs hp hl hn
    obtain ⟨n, rfl⟩ : ∃ m, n = m + 1 := ⟨n - 1, by omega⟩
    rw [s_l23Sorted_l42, ge_app rfl]
    exact ⟨_, rfl, by simpa using hs, .refl _⟩
  | cons x post ih =>
    intro pre n hs hp hl hn
    simp only [List.length_append, List.length_cons] at hl hn
    rw [Nat.succ_mul] at hn
    generalize hz : post.length * C = z at hn ih
    obtain ⟨n, rfl⟩ : ∃ m, n = m + 1 := ⟨n - 1, by omega⟩
    rw [s_l23Sorted_l42, if_pos (lt_app rfl)]
    obtain ⟨L, n', h1, h2, h3, h4⟩ := sInner ((pre.length : Nat) : Int) post pre.length pre rfl x [] n (by simp only [List.length_append, List.length_cons, List.nil_append]; unfold Big; omega) (by simpa using hs) (by simp) (by omega)
    have hL : L.length = pre.length + 1 := by rw [h2.length_eq]; simp
    have hw : IntKind.i64.wrap (((pre.length : Nat) : Int) + 1) = ((L.length : Nat) : Int) := by rw [w64 (by omega) (by omega), hL]; omega
    rw [List.nil_append] at h4
    rw [h4, hw]
    obtain ⟨r, k1, k2, k3⟩ := ih L n' h1 (by omega) (by simp only [List.length_append]; omega) (by omega)
    refine ⟨r, k1, k2, k3.trans ?_⟩
    have := List.Perm.append_right post h2
    simpa using this
theorem sSorted_eq (l : List Int) (hl : l.length ≤ 4000) : s_l23Sorted l = some (sortI l) := by
  unfold s_l23Sorted s_l00Own
  rw [app_ok (by unfold Big; simp; omega), bind_some', List.nil_append, bind_some']
  cases l with
  | nil => obtain ⟨n, hn⟩ : ∃ m, fuel = m + 1 := ⟨fuel - 1, by rw [fuel_eq]⟩
           rw [hn, s_l23Sorted_l42]; simp [sortI]
  | cons x l =>
    simp only [List.length_cons] at hl
    obtain ⟨r, h1, h2, h3⟩ := sOuter 10000 (by omega) l [x] fuel (by simp [Up]) (by simp) (by simp only [List.length_append, List.length_cons, List.length_nil]; omega) (by rw [fuel_eq]; omega)
    have e : s_l23Sorted_l42 fuel (x :: l) 1 = some r := h1
    rw [e, sortI_of h2 h3]; rfl

/-! Who is busy. -/
theorem sBusy_loop (d : Deque) (hl : d.actors.length ≤ Big) : ∀ (post pre : List DequeActor) (acc : List Int) (n : Nat), d.actors = pre ++ post → post.length < n → acc.length ≤ pre.length → ∃ r, s_l23Busy_l2 n d acc ((List.length pre : Nat) : Int) = some r ∧ (r.length = 0 ↔ acc.length = 0 ∧ post.any (fun a => decide (0 < ((List.length a.todo : Nat) : Int))) = false) := by
  intro post
  induction post with
  | nil =>
    intro pre acc n h hn ha
    obtain ⟨n, rfl⟩ : ∃ m, n = m + 1 := ⟨n - 1, by omega⟩
    rw [s_l23Busy_l2, ge_app h]
    exact ⟨acc, rfl, by simp⟩
  | cons x post ih =>
    intro pre acc n h hn ha
    simp only [List.length_cons] at hn
    obtain ⟨n, rfl⟩ : ∃ m, n = m + 1 := ⟨n - 1, by omega⟩
    have hlen : pre.length + 1 ≤ Big := by rw [h] at hl; simp only [List.length_append, List.length_cons] at hl; omega
    rw [s_l23Busy_l2, if_pos (lt_app h), at_app h, bind_some', wrap_app h hl]
    by_cases hx : (0 : Int) < ((List.length x.todo : Nat) : Int)
    · rw [decide_eq_true hx, if_pos rfl, app_ok (by simp; omega), bind_some']
      obtain ⟨r, h1, h2⟩ := ih (pre ++ [x]) (acc ++ [((List.length pre : Nat) : Int)]) n (next_app h) (by omega) (by simp; omega)
      refine ⟨r, h1, h2.trans ⟨fun h3 => ?_, fun h3 => ?_⟩⟩
      · simp at h3
      · have h4 := h3.2
        rw [List.any_cons, decide_eq_true hx] at h4
        simp at h4
    · rw [decide_eq_false hx]
      obtain ⟨r, h1, h2⟩ := ih (pre ++ [x]) acc n (next_app h) (by omega) (by simp; omega)
      refine ⟨r, by simpa using h1, h2.trans ?_⟩
      rw [List.any_cons, decide_eq_false hx, Bool.false_or]
def busyB (d : Deque) : Bool := d.actors.any fun a => decide (0 < ((List.length a.todo : Nat) : Int))
theorem sBusy_eq (d : Deque) (hl : d.actors.length ≤ Big) : ∃ r, s_l23Busy d = some r ∧ decide (((List.length r : Nat) : Int) = 0) = !busyB d := by
  obtain ⟨r, h1, h2⟩ := sBusy_loop d hl d.actors [] [] fuel rfl (by rw [fuel_eq]; unfold Big at hl; omega) (by simp)
  refine ⟨r, h1, ?_⟩
  simp only [List.length_nil, true_and] at h2
  unfold busyB
  rw [Bool.eq_iff_iff, decide_eq_true_eq, Bool.not_eq_true']
  exact ⟨fun h => h2.1 (by omega), fun h => by have := h2.2 h; omega⟩
theorem containsActor (l : List DequeActor) (f : DequeActor → Option Bool) (p : DequeActor → Bool) (hl : l.length ≤ Big) (hf : ∀ x ∈ l, f x = some (p x)) : g_ContainsFunc_simpl_DequeActor l f = some (l.any p) := by
  obtain ⟨i, h1, h2, -⟩ := indexFunc_go g_IndexFunc_simpl_DequeActor_l1 (fun n l i f => by rw [g_IndexFunc_simpl_DequeActor_l1]) l f p hl hf
  unfold g_ContainsFunc_simpl_DequeActor g_IndexFunc_simpl_DequeActor
  rw [h1, bind_some']
  congr 1
  rw [Bool.eq_iff_iff, decide_eq_true_eq]; exact h2
theorem iDone_eq (d : Deque) (hl : d.actors.length ≤ Big) : i_Deque_isDone d = some (!busyB d) := by
  unfold i_Deque_isDone
  rw [containsActor d.actors (fun y0 => i_Deque_isDone_1 y0) (fun a => decide (0 < ((List.length a.todo : Nat) : Int))) hl (fun x _ => show i_Deque_isDone_1 x = _ from rfl)]
  rfl

/-! Two lists one behind the other. -/
theorem concat_eq (a b : List Int) (h : a.length + b.length ≤ 4000) : g_Concat_sint64 [a, b] = some (a ++ b) := by
  obtain ⟨m, hm⟩ : ∃ m, fuel = m + 3 := ⟨fuel - 3, by rw [fuel_eq]⟩
  have w1 : IntKind.i64.wrap (0 + ((List.length a : Nat) : Int)) = ((List.length a : Nat) : Int) := by rw [w64 (by omega) (by omega)]; omega
  have w2 : IntKind.i64.wrap (((List.length a : Nat) : Int) + ((List.length b : Nat) : Int)) = ((List.length a : Nat) : Int) + ((List.length b : Nat) : Int) := w64 (by omega) (by omega)
  have n1 : decide ((((List.length a : Nat) : Int)) < 0) = false := by simp
  have n2 : decide ((((List.length a : Nat) : Int)) + ((List.length b : Nat) : Int) < 0) = false := by simp; omega
  have g0 : g_Grow_sint64 [] (((List.length a : Nat) : Int) + ((List.length b : Nat) : Int)) = some [] := by
    unfold g_Grow_sint64; rw [if_pos ⟨rfl, by omega, by omega⟩]
  have l3 : g_Concat_sint64_l3 fuel [a, b] [] 0 = some (a ++ b) := by
    rw [hm, g_Concat_sint64_l3]
    have e0 : at? [a, b] (0 : Int) = some a := rfl
    have e1 : at? [a, b] (1 : Int) = some b := rfl
    have k0 : decide ((0 : Int) < ((List.length [a, b] : Nat) : Int)) = true := rfl
    have k1 : decide ((1 : Int) < ((List.length [a, b] : Nat) : Int)) = true := rfl
    have k2 : decide ((2 : Int) < ((List.length [a, b] : Nat) : Int)) = false := rfl
    have v1 : IntKind.i64.wrap ((0 : Int) + 1) = 1 := by rw [w64 (by omega) (by omega)]; rfl
    have v2 : IntKind.i64.wrap ((1 : Int) + 1) = 2 := by rw [w64 (by omega) (by omega)]; rfl
    rw [k0, if_pos rfl, e0, bind_some', app_ok (by unfold Big; simp; omega), bind_some', v1, g_Concat_sint64_l3, k1, if_pos rfl, e1, bind_some', List.nil_append, app_ok (by unfold Big; omega), bind_some', v2, g_Concat_sint64_l3, k2]
    rfl
  unfold g_Concat_sint64
  have l1 : g_Concat_sint64_l1 fuel [a, b] 0 0 = some (a ++ b) := by
    rw [show g_Concat_sint64_l1 fuel [a, b] 0 0 = g_Concat_sint64_l1 (m + 3) [a, b] 0 0 by rw [hm], g_Concat_sint64_l1]
    have e0 : at? [a, b] (0 : Int) = some a := rfl
    have e1 : at? [a, b] (1 : Int) = some b := rfl
    have k0 : decide ((0 : Int) < ((List.length [a, b] : Nat) : Int)) = true := rfl
    have k1 : decide ((1 : Int) < ((List.length [a, b] : Nat) : Int)) = true := rfl
    have k2 : decide ((2 : Int) < ((List.length [a, b] : Nat) : Int)) = false := rfl
    have v1 : IntKind.i64.wrap ((0 : Int) + 1) = 1 := by rw [w64 (by omega) (by omega)]; rfl
    have v2 : IntKind.i64.wrap ((1 : Int) + 1) = 2 := by rw [w64 (by omega) (by omega)]; rfl
    rw [k0, if_pos rfl, e0, bind_some', w1, n1, if_neg (by simp), v1, g_Concat_sint64_l1, k1, if_pos rfl, e1, bind_some', w2, n2, if_neg (by simp), v2, g_Concat_sint64_l1, k2, if_neg (by simp), g0, bind_some', l3]
  exact l1

/-! Both sides. -/
theorem l00Same_tells (l m : List Int) (hl : l.length ≤ Big) : Tells (s_l00Same l m) (l = m) := by
  unfold s_l00Same
  exact gEqS (fun n i => s_l00Same_l1 n l m i) (fun x y => some (decide (x = y))) l m (fun n i => by rw [s_l00Same_l1]; rfl) hl fun x _ y _ => .mk dec_iff
theorem equalInt_tells (l m : List Int) (hl : l.length ≤ Big) : Tells (g_Equal_sint64 l m) (l = m) := by
  unfold g_Equal_sint64
  exact gEqS (fun n i => g_Equal_sint64_l1 n l m i) (fun x y => some (decide (x = y))) l m (fun n i => by rw [g_Equal_sint64_l1]; rfl) hl fun x _ y _ => .mk dec_iff
theorem sOnce_loop (d : Deque) (p : List Int) (hp : p.length ≤ 3000) (hl : d.taken.length ≤ 1000) : ∀ (post pre : List Handed) (acc : List Int) (n : Nat), d.taken = pre ++ post → post.length < n → acc.length + post.length ≤ 4000 →
    Tells (s_l23Once_l2 n d p acc ((List.length pre : Nat) : Int)) (sortI (acc ++ post.map Handed.value) = sortI p) := by
  intro post
  induction post with
  | nil =>
    intro pre acc n h hn ha
    obtain ⟨n, rfl⟩ : ∃ m, n = m + 1 := ⟨n - 1, by omega⟩
    rw [s_l23Once_l2, ge_app h, if_neg (by simp), sSorted_eq acc (by simp at ha; omega), bind_some', sSorted_eq p (by omega), bind_some']
    simp only [List.map_nil, List.append_nil]
    exact tells_bind_some (l00Same_tells _ _ (by rw [sortI_length]; unfold Big; simp at ha; omega))
  | cons x post ih =>
    intro pre acc n h hn ha
    simp only [List.length_cons] at hn ha
    obtain ⟨n, rfl⟩ : ∃ m, n = m + 1 := ⟨n - 1, by omega⟩
    rw [s_l23Once_l2, if_pos (lt_app h), at_app h, bind_some', app_ok (by unfold Big; simp; omega), bind_some', wrap_app h (by unfold Big; omega)]
    have := ih (pre ++ [x]) (acc ++ [x.value]) n (next_app h) (by omega) (by simp; omega)
    simpa using this
theorem iOnce_loop (d : Deque) (p : List Int) (hp : p.length ≤ 3000) (hl : d.taken.length ≤ 1000) : ∀ (post pre : List Handed) (acc : List Int) (n : Nat), d.taken = pre ++ post → post.length < n → acc.length + post.length ≤ 4000 →
    Tells (i_Deque_handedOnce_l2 n d p acc ((List.length pre : Nat) : Int)) (sortI (acc ++ post.map Handed.value) = sortI p) := by
  intro post
  induction post with
  | nil =>
    intro pre acc n h hn ha
    obtain ⟨n, rfl⟩ : ∃ m, n = m + 1 := ⟨n - 1, by omega⟩
    have e1 : g_Sort_sint64 acc = some (sortI acc) := by unfold g_Sort_sint64; rw [if_pos (by simp at ha; omega)]
    have e2 : g_Sorted_int64 p = some (sortI p) := by unfold g_Sorted_int64; rw [if_pos (by omega)]
    rw [i_Deque_handedOnce_l2, ge_app h, if_neg (by simp), e1, bind_some', e2, bind_some']
    simp only [List.map_nil, List.append_nil]
    exact tells_bind_some (equalInt_tells _ _ (by rw [sortI_length]; unfold Big; simp at ha; omega))
  | cons x post ih =>
    intro pre acc n h hn ha
    simp only [List.length_cons] at hn ha
    obtain ⟨n, rfl⟩ : ∃ m, n = m + 1 := ⟨n - 1, by omega⟩
    rw [i_Deque_handedOnce_l2, if_pos (lt_app h), at_app h, bind_some', app_ok (by unfold Big; simp; omega), bind_some', wrap_app h (by unfold Big; omega)]
    have := ih (pre ++ [x]) (acc ++ [x.value]) n (next_app h) (by omega) (by simp; omega)
    simpa using this
theorem once_eq (d : Deque) (p : List Int) (h : deqB d = true) (hp : p.length ≤ 3000) : ∃ b, s_l23Once d p = some b ∧ i_Deque_handedOnce d p = some b := by
  obtain ⟨r, k1, k2, k3⟩ := left_eq d h
  unfold deqB at h
  simp only [Bool.and_eq_true, decide_eq_true_eq] at h
  obtain ⟨-, -, -, -, h5, h6, -⟩ := h
  have hs := sOnce_loop d p hp h5 d.taken [] (r ++ d.refused) fuel rfl (by rw [fuel_eq]; omega) (by simp; omega)
  have hi := iOnce_loop d p hp h5 d.taken [] (r ++ d.refused) fuel rfl (by rw [fuel_eq]; omega) (by simp; omega)
  have e := Tells.eq hs hi
  obtain ⟨b, hb, -⟩ := hs
  refine ⟨b, ?_, ?_⟩
  · unfold s_l23Once
    rw [k1, bind_some', app_ok (by unfold Big; omega), bind_some']
    exact hb
  · unfold i_Deque_handedOnce
    rw [k2, bind_some', concat_eq r d.refused (by omega), bind_some']
    exact e.symm.trans hb
theorem HandedOnce_same (d : Deque) (p : List Int) (h : d.sz ≤ 1048576) (hp : p.length ≤ 1048576) : ∃ r, s_HandedOnce d p = some r ∧ i_HandedOnce d p = some r ∧ True := by
  obtain ⟨h1, h2, h3, h4⟩ := d.small_of (by unfold Big; omega)
  unfold s_HandedOnce i_HandedOnce i_IsDequeDone
  rw [sDeq_eq d h1 h2 h3 h4, iDeq_eq d h1 h2 h3 h4, bind_some', bind_some']
  cases hd : deqB d with
  | false => exact ⟨false, by simp, by simp, trivial⟩
  | true =>
    obtain ⟨r, e1, e2⟩ := sBusy_eq d h2
    rw [if_pos rfl, if_pos rfl, e1, bind_some', e2, iDone_eq d h2, bind_some', bind_some']
    cases busyB d with
    | true => exact ⟨false, by simp, by simp, trivial⟩
    | false =>
      by_cases hp3 : ((List.length p : Nat) : Int) ≤ 3000
      · obtain ⟨b, b1, b2⟩ := once_eq d p hd (by omega)
        rw [decide_eq_true hp3, b1, b2]
        exact ⟨b, by simp, by simp, trivial⟩
      · rw [decide_eq_false hp3]
        exact ⟨false, by simp, by simp, trivial⟩
end Go.Proofs.Ytckcfdggbbabfaa.Ab
