/-
  ValidDeque: both sides. By hand.
-/
import Derived.Test.YtckcfdggbbabfaaModD
import Derived.Test.YtckcfdggbbabfaaPlC
namespace Go.Proofs.Ytckcfdggbbabfaa.Ab
set_option linter.unusedVariables false
set_option linter.unusedSimpArgs false
set_option maxRecDepth 20000
set_option maxHeartbeats 4000000
open Go.RowKit

def taskB (n : Int) : Bool := decide (1 ≤ n ∧ n ≤ 1000)
def endB (n : Int) : Bool := decide (0 ≤ n ∧ n ≤ 1000)
theorem sTask_eq (n : Int) : s_l23Task n = some (taskB n) := by unfold s_l23Task; rw [l00In_eq, bind_some']; rfl
theorem iTask_eq (n : Int) : i_isTask n = some (taskB n) := by unfold i_isTask taskB; by_cases h : 1 ≤ n <;> simp [h]
theorem iEnd_eq (n : Int) : i_isEnd n = some (endB n) := by unfold i_isEnd endB; by_cases h : 0 ≤ n <;> simp [h]
def opB (o : Bool) (n : Int) : Bool := decide (n = 0) || (o && taskB n)
def idleB (a : DequeActor) : Bool := decide (a.pc = 0) && (decide (a.t = 0) && (decide (a.b = 0) && decide (a.x = 0)))
def tailB (a : DequeActor) (o : Bool) : Bool := match a.todo with
  | [] => idleB a
  | op :: _ => if a.pc = 0 then idleB a else decide (1 ≤ a.pc) && (endB a.t && (endB a.x && (decide (a.b ≤ 1000) && (if op = 0 then decide (a.pc ≤ 3) && (decide (0 ≤ a.b) || (o && decide (a.b = -1))) else decide (a.pc ≤ 2) && decide (0 ≤ a.b)))))
def actB (a : DequeActor) (o : Bool) : Bool := decide (a.todo.length ≤ 10) && (a.todo.all (opB o) && tailB a o)
def sEnd (a0 : DequeActor) (a1 : Bool) : Option Bool := (if (decide (a0.pc = 0)) = true then (if (decide (a0.t = 0)) = true then (if (decide (a0.b = 0)) = true then (s_l23Actor_j6 a0 a1 (decide (a0.x = 0))) else (s_l23Actor_j6 a0 a1 false)) else (s_l23Actor_j6 a0 a1 false)) else (s_l23Actor_j6 a0 a1 false))
theorem sAct_loop (a : DequeActor) (o : Bool) (hl : a.todo.length ≤ Big) : ∀ (post pre : List Int) (n : Nat), a.todo = pre ++ post → 2 * post.length < n → s_l23Actor_l4 n a o ((List.length pre : Nat) : Int) = if post.all (opB o) = true then sEnd a o else some false := by
  intro post
  induction post with
  | nil =>
    intro pre n h hn
    obtain ⟨n, rfl⟩ : ∃ m, n = m + 1 := ⟨n - 1, by omega⟩
    rw [s_l23Actor_l4, ge_app h]; rfl
  | cons x post ih =>
    intro pre n h hn
    simp only [List.length_cons] at hn
    obtain ⟨n, rfl⟩ : ∃ m, n = m + 2 := ⟨n - 2, by omega⟩
    have h5 : ∀ b, s_l23Actor_j5 (n + 1) a o ((List.length pre : Nat) : Int) b = if b = true then some false else (if post.all (opB o) = true then sEnd a o else some false) := fun b => by
      rw [s_l23Actor_j5, wrap_app h hl, ih (pre ++ [x]) n (next_app h) (by omega)]
    rw [s_l23Actor_l4, if_pos (lt_app h), at_app h, bind_some', h5, h5, bind_some', sTask_eq, bind_some', h5, List.all_cons]
    unfold opB
    by_cases h0 : x = 0
    · simp [h0]
    · cases o <;> cases taskB x <;> simp [h0]
theorem sAct_eq (a : DequeActor) (o : Bool) : s_l23Actor a o = some (actB a o) := by
  by_cases hl : a.todo.length ≤ 10
  · have hL := sAct_loop a o (by unfold Big; omega) a.todo [] fuel rfl (by rw [fuel_eq]; omega)
    simp only [List.length_nil, Int.natCast_zero] at hL
    unfold s_l23Actor actB
    rw [decide_eq_false (by omega), decide_eq_true hl, if_neg (by simp), l00In_eq, bind_some', l00In_eq, bind_some', l00In_eq, bind_some', l00In_eq, bind_some']
    simp only [s_l23Actor_j1, hL, sEnd, s_l23Actor_j6, s_l23Actor_j7, Bool.true_and]
    cases hall : a.todo.all (opB o) with
    | false => simp; 
    | true =>
      unfold tailB
      cases ht : a.todo with
      | nil =>
        simp only [idleB, List.length_nil, Bool.true_and, if_true]
        by_cases p1 : a.pc = 0 <;> by_cases p2 : a.t = 0 <;> by_cases p3 : a.b = 0 <;> by_cases p4 : a.x = 0 <;> simp [p1, p2, p3, p4]
      | cons op l =>
        have e0 : at? (op :: l) 0 = some op := rfl
        simp only [idleB, Bool.true_and, if_true, e0, bind_some', endB]
        have hne : ¬ (((List.length (op :: l) : Nat) : Int) = 0) := by simp; omega
        by_cases p1 : a.pc = 0
        · by_cases p2 : a.t = 0 <;> by_cases p3 : a.b = 0 <;> by_cases p4 : a.x = 0 <;> simp [p1, p2, p3, p4]
        · have l3 : decide (a.pc < 3) = decide (a.pc ≤ 2) := decide_eq_decide.2 ⟨fun h => by omega, fun h => by omega⟩
          have hne2 : ¬ ((l.length : Int) + 1 = 0) := by omega
          have fin : ∀ (X : Bool), 0 ≤ a.pc ∧ a.pc ≤ 3 → -1 ≤ a.b ∧ a.b ≤ 1000 → X = o → (if op = 0 then (if X = true then some true else some (decide (0 ≤ a.b))) else (if a.pc < 3 then some (decide (0 ≤ a.b)) else some false)) = some (decide (1 ≤ a.pc) && (if op = 0 then decide (0 ≤ a.b) || (o && decide (a.b = -1)) else decide (a.pc ≤ 2) && decide (0 ≤ a.b))) := by
            intro X hq1 hq3 hX
            subst hX
            have l1 : 1 ≤ a.pc := by omega
            by_cases q5 : op = 0
            · by_cases q6 : 0 ≤ a.b
              · cases X <;> simp [q5, q6, l1]
              · have : a.b = -1 := by omega
                cases X <;> simp [q5, q6, l1, this]
            · by_cases q7 : a.pc ≤ 2
              · have : a.pc < 3 := by omega
                simp [q5, q7, l1, this]
              · have : ¬ a.pc < 3 := by omega
                simp [q5, q7, l1, this]
          by_cases q1 : 0 ≤ a.pc ∧ a.pc ≤ 3 <;> by_cases q2 : 0 ≤ a.t ∧ a.t ≤ 1000 <;> by_cases q3 : -1 ≤ a.b ∧ a.b ≤ 1000 <;> by_cases q4 : 0 ≤ a.x ∧ a.x ≤ 1000
          · have := fin o q1 q3 rfl
            by_cases q5 : op = 0 <;> cases o <;> simp [p1, q1, q2, q3, q4, q5, hne, hne2] at this ⊢ <;> exact this
          all_goals (by_cases q5 : op = 0 <;> cases o <;> simp [p1, q1, q2, q3, q4, q5, hne, hne2] <;> omega)
  · unfold s_l23Actor actB
    rw [decide_eq_true (by omega), decide_eq_false hl, if_pos rfl]
    simp [s_l23Actor_j1]
theorem iOp_eq (o : Bool) (y : Int) : i_validActor_1 y o = some (!opB o y) := by
  unfold i_validActor_1 opB
  by_cases h : y = 0
  · simp [h]
  · cases o <;> simp [h, iTask_eq, bind_some']
theorem any_nopB {o : Bool} {l : List Int} : l.any (fun y => !opB o y) = !l.all (opB o) := by
  induction l with
  | nil => rfl
  | cons x l ih => rw [List.any_cons, List.all_cons, ih]; cases opB o x <;> simp
theorem iAct_eq (a : DequeActor) (o : Bool) : i_validActor a o = some (actB a o) := by
  by_cases hl : a.todo.length ≤ 10
  · unfold i_validActor actB
    rw [decide_eq_false (by omega), decide_eq_true hl, if_neg (by simp), containsInt a.todo _ (fun y => !opB o y) (by unfold Big; omega) (fun x _ => iOp_eq o x), bind_some', any_nopB]
    cases hall : a.todo.all (opB o) with
    | false => simp [i_validActor_j1]
    | true =>
      simp only [i_validActor_j1, Bool.not_true, Bool.false_eq_true, if_false, Bool.true_and]
      unfold tailB
      cases ht : a.todo with
      | nil =>
        simp only [idleB, i_validActor_j2]
        by_cases p1 : a.pc = 0 <;> by_cases p2 : a.t = 0 <;> by_cases p3 : a.b = 0 <;> by_cases p4 : a.x = 0 <;> simp [p1, p2, p3, p4]
      | cons op l =>
        have e0 : at? (op :: l) 0 = some op := rfl
        have hne : ¬ (((List.length (op :: l) : Nat) : Int) = 0) := by simp; omega
        have hpos : (0 : Int) < ((List.length (op :: l) : Nat) : Int) := by rw [List.length_cons]; omega
        rw [decide_eq_false hne, if_neg (by simp)]
        by_cases p1 : a.pc = 0
        · simp only [idleB, i_validActor_j2, p1, decide_true, if_true]
          by_cases p2 : a.t = 0 <;> by_cases p3 : a.b = 0 <;> by_cases p4 : a.x = 0 <;> simp [p1, p2, p3, p4]
        · have ht2 : i_DequeActor_taking a = some (decide (op = 0) && decide (1 ≤ a.pc)) := by
            unfold i_DequeActor_taking
            rw [ht, decide_eq_true hpos, if_pos rfl, e0, bind_some']
            by_cases q : op = 0 <;> simp [q]
          simp only [i_validActor_j2, decide_eq_false p1, ht, e0, bind_some', i_validActor_j3, i_validActor_j4, iEnd_eq, ht2, if_neg p1, Bool.false_eq_true, if_false]
          unfold endB
          by_cases q1 : 1 ≤ a.pc
          · by_cases q2 : 0 ≤ a.t ∧ a.t ≤ 1000
            · by_cases q4 : 0 ≤ a.x ∧ a.x ≤ 1000
              · by_cases q5 : op = 0
                · by_cases q6 : 0 ≤ a.b ∧ a.b ≤ 1000
                  · by_cases q7 : a.pc ≤ 3 <;> simp [q1, q2, q4, q5, q6, q7]
                  · by_cases q8 : a.b = -1
                    · by_cases q7 : a.pc ≤ 3 <;> cases o <;> simp [q1, q2, q4, q5, q7, q8]
                    · by_cases q7 : a.pc ≤ 3 <;> simp [q1, q2, q4, q5, q6, q7, q8] <;> omega
                · by_cases q6 : 0 ≤ a.b ∧ a.b ≤ 1000
                  · by_cases q7 : a.pc ≤ 2 <;> simp [q1, q2, q4, q5, q6, q7]
                  · by_cases q8 : a.b = -1
                    · by_cases q7 : a.pc ≤ 2 <;> cases o <;> simp [q1, q2, q4, q5, q7, q8]
                    · by_cases q7 : a.pc ≤ 2 <;> simp [q1, q2, q4, q5, q6, q7, q8] <;> omega
              · by_cases q5 : op = 0 <;> by_cases q6 : 0 ≤ a.b ∧ a.b ≤ 1000 <;> by_cases q8 : a.b = -1 <;> cases o <;> simp [q1, q2, q4, q5, q6, q8] <;> omega
            · by_cases q5 : op = 0 <;> by_cases q6 : 0 ≤ a.b ∧ a.b ≤ 1000 <;> by_cases q8 : a.b = -1 <;> cases o <;> simp [q1, q2, q5, q6, q8] <;> omega
          · by_cases q5 : op = 0 <;> by_cases q6 : 0 ≤ a.b ∧ a.b ≤ 1000 <;> by_cases q8 : a.b = -1 <;> cases o <;> simp [q1, q5, q6, q8]
  · unfold i_validActor actB
    rw [decide_eq_true (by omega), decide_eq_false hl, if_pos rfl]
    simp [i_validActor_j1]
/-! ### The deque: the spec's loops -/
def handB (n : Nat) (h : Handed) : Bool := decide (0 ≤ h.actor ∧ h.actor ≤ (n : Int) - 1) && endB h.value
def actsB : Nat → List DequeActor → Bool
  | _, [] => true
  | i, a :: l => actB a (decide (i = 0)) && actsB (i + 1) l
theorem zero_dec {n : Nat} : decide ((n : Int) = 0) = decide (n = 0) := by congr 1; exact propext (by omega)
theorem sRef_loop (d : Deque) (hl : d.refused.length ≤ Big) : ∀ (post pre : List Int) (n : Nat), d.refused = pre ++ post → post.length < n → s_l23Ok_l11 n d ((List.length pre : Nat) : Int) = if post.all taskB = true then s_l23Room d else some false := by
  intro post
  induction post with
  | nil =>
    intro pre n h hn
    obtain ⟨n, rfl⟩ : ∃ m, n = m + 1 := ⟨n - 1, by omega⟩
    rw [s_l23Ok_l11, ge_app h, if_neg (by simp), List.all_nil, if_pos rfl]
    cases s_l23Room d <;> rfl
  | cons x post ih =>
    intro pre n h hn
    simp only [List.length_cons] at hn
    obtain ⟨n, rfl⟩ : ∃ m, n = m + 1 := ⟨n - 1, by omega⟩
    rw [s_l23Ok_l11, if_pos (lt_app h), at_app h, bind_some', sTask_eq, bind_some', wrap_app h hl, ih (pre ++ [x]) n (next_app h) (by omega), List.all_cons]
    cases taskB x <;> simp
theorem sTak_loop (d : Deque) (hl : d.taken.length ≤ Big) (ha : d.actors.length ≤ Big) : ∀ (post pre : List Handed) (n : Nat), d.taken = pre ++ post → 2 * post.length < n → s_l23Ok_l9 n d ((List.length pre : Nat) : Int) = if post.all (handB d.actors.length) = true then s_l23Ok_l11 fuel d 0 else some false := by
  intro post
  induction post with
  | nil =>
    intro pre n h hn
    obtain ⟨n, rfl⟩ : ∃ m, n = m + 1 := ⟨n - 1, by omega⟩
    rw [s_l23Ok_l9, ge_app h]; rfl
  | cons x post ih =>
    intro pre n h hn
    simp only [List.length_cons] at hn
    obtain ⟨n, rfl⟩ : ∃ m, n = m + 2 := ⟨n - 2, by omega⟩
    have h5 : ∀ b, s_l23Ok_j10 (n + 1) d ((List.length pre : Nat) : Int) b = if b = true then some false else (if post.all (handB d.actors.length) = true then s_l23Ok_l11 fuel d 0 else some false) := fun b => by
      rw [s_l23Ok_j10, wrap_app h hl, ih (pre ++ [x]) n (next_app h) (by omega)]
    rw [s_l23Ok_l9, if_pos (lt_app h), at_app h, bind_some', l00In_eq, bind_some', h5, bind_some', l00In_eq, bind_some', h5, List.all_cons, w64 (by omega) (by unfold Big at ha; omega)]
    unfold handB endB
    cases decide (0 ≤ x.actor ∧ x.actor ≤ (d.actors.length : Int) - 1) <;> cases decide (0 ≤ x.value ∧ x.value ≤ 1000) <;> simp
theorem sActs_loop (d : Deque) (hl : d.actors.length ≤ Big) : ∀ (post pre : List DequeActor) (n : Nat), d.actors = pre ++ post → post.length < n → s_l23Ok_l6 n d ((List.length pre : Nat) : Int) = if actsB pre.length post = true then s_l23Ok_l9 fuel d 0 else some false := by
  intro post
  induction post with
  | nil =>
    intro pre n h hn
    obtain ⟨n, rfl⟩ : ∃ m, n = m + 1 := ⟨n - 1, by omega⟩
    rw [s_l23Ok_l6, ge_app h]; rfl
  | cons x post ih =>
    intro pre n h hn
    simp only [List.length_cons] at hn
    obtain ⟨n, rfl⟩ : ∃ m, n = m + 1 := ⟨n - 1, by omega⟩
    rw [s_l23Ok_l6, if_pos (lt_app h), at_app h, bind_some', sAct_eq, bind_some', wrap_app h hl, ih (pre ++ [x]) n (next_app h) (by omega), actsB, zero_dec, List.length_append, List.length_singleton]
    cases actB x (decide (pre.length = 0)) <;> simp
theorem sBuf_loop (d : Deque) (hl : d.buffer.length ≤ Big) : ∀ (post pre : List Int) (n : Nat), d.buffer = pre ++ post → 2 * post.length < n → s_l23Ok_l4 n d ((List.length pre : Nat) : Int) = if post.all (opB true) = true then s_l23Ok_l6 fuel d 0 else some false := by
  intro post
  induction post with
  | nil =>
    intro pre n h hn
    obtain ⟨n, rfl⟩ : ∃ m, n = m + 1 := ⟨n - 1, by omega⟩
    rw [s_l23Ok_l4, ge_app h]; rfl
  | cons x post ih =>
    intro pre n h hn
    simp only [List.length_cons] at hn
    obtain ⟨n, rfl⟩ : ∃ m, n = m + 2 := ⟨n - 2, by omega⟩
    have h5 : ∀ b, s_l23Ok_j5 (n + 1) d ((List.length pre : Nat) : Int) b = if b = true then some false else (if post.all (opB true) = true then s_l23Ok_l6 fuel d 0 else some false) := fun b => by
      rw [s_l23Ok_j5, wrap_app h hl, ih (pre ++ [x]) n (next_app h) (by omega)]
    rw [s_l23Ok_l4, if_pos (lt_app h), at_app h, bind_some', bind_some', sTask_eq, bind_some', h5, h5, List.all_cons]
    unfold opB
    by_cases h0 : x = 0
    · simp [h0]
    · cases taskB x <;> simp [h0]
def takB (a : DequeActor) : Bool := match a.todo with
  | [] => false
  | op :: _ => decide (op = 0) && decide (1 ≤ a.pc)
def roomB (d : Deque) : Bool := match d.actors with
  | [] => false
  | a :: _ => decide ((if takB a = true then -1 else 0) ≤ IntKind.i64.wrap (d.bottom - d.top) ∧ IntKind.i64.wrap (d.bottom - d.top) ≤ (d.buffer.length : Int))
def deqB (d : Deque) : Bool := decide (1 ≤ d.buffer.length ∧ d.buffer.length ≤ 8) && (endB d.top && (decide (-1 ≤ d.bottom ∧ d.bottom ≤ 1000) && (decide (1 ≤ d.actors.length ∧ d.actors.length ≤ 4) && (decide (d.taken.length ≤ 1000) && (decide (d.refused.length ≤ 1000) && (d.buffer.all (opB true) && (actsB 0 d.actors && (d.taken.all (handB d.actors.length) && (d.refused.all taskB && roomB d)))))))))
theorem act_pc {a : DequeActor} {o : Bool} (h : actB a o = true) (ht : a.todo = []) : a.pc = 0 := by
  unfold actB tailB at h
  rw [ht] at h
  simp [idleB] at h
  exact h.1
theorem sRoom_eq (d : Deque) {a : DequeActor} {l : List DequeActor} (h : d.actors = a :: l) (hv : actB a true = true) : s_l23Room d = some (roomB d) := by
  unfold s_l23Room roomB
  rw [h, show at? (a :: l) 0 = some a from rfl, bind_some']
  cases ht : a.todo with
  | nil =>
    have := act_pc hv ht
    have hk : takB a = false := by unfold takB; rw [ht]
    simp [this, hk, s_l23Room_j1, s_l23Room_j2, l00In_eq, bind_some']
  | cons op t =>
    have e0 : ∀ x : Int, at? (x :: t) 0 = some x := fun _ => rfl
    have hk : takB a = (decide (op = 0) && decide (1 ≤ a.pc)) := by unfold takB; rw [ht]
    by_cases p : 0 < a.pc
    · have p' : 1 ≤ a.pc := by omega
      by_cases q : op = 0 <;> simp [p, p', q, e0, hk, s_l23Room_j1, s_l23Room_j2, l00In_eq, bind_some']
    · have p' : ¬ 1 ≤ a.pc := by omega
      simp [p, p', hk, s_l23Room_j1, s_l23Room_j2, l00In_eq, bind_some']
theorem sDeq_eq (d : Deque) (h1 : d.buffer.length ≤ Big) (h2 : d.actors.length ≤ Big) (h3 : d.taken.length ≤ Big) (h4 : d.refused.length ≤ Big) : s_l23Ok d = some (deqB d) := by
  have hf : ∀ k : Nat, k ≤ 2 * Big → k < fuel := fun k hk => by rw [fuel_eq]; unfold Big at hk; omega
  have L1 := sBuf_loop d h1 d.buffer [] fuel rfl (hf _ (by omega))
  have L2 := sActs_loop d h2 d.actors [] fuel rfl (hf _ (by omega))
  have L3 := sTak_loop d h3 h2 d.taken [] fuel rfl (hf _ (by omega))
  have L4 := sRef_loop d h4 d.refused [] fuel rfl (hf _ (by omega))
  simp only [List.length_nil, Int.natCast_zero] at L1 L2 L3 L4
  unfold s_l23Ok deqB
  rw [l00In_eq, bind_some', l00In_eq, bind_some', l00In_eq, bind_some', l00In_eq, bind_some']
  have e1 : decide (1 ≤ ((List.length d.buffer : Nat) : Int) ∧ ((List.length d.buffer : Nat) : Int) ≤ 8) = decide (1 ≤ d.buffer.length ∧ d.buffer.length ≤ 8) := by congr 1; exact propext (by omega)
  have e2 : decide (1 ≤ ((List.length d.actors : Nat) : Int) ∧ ((List.length d.actors : Nat) : Int) ≤ 4) = decide (1 ≤ d.actors.length ∧ d.actors.length ≤ 4) := by congr 1; exact propext (by omega)
  have e3 : decide ((1000 : Int) < ((List.length d.taken : Nat) : Int)) = !decide (d.taken.length ≤ 1000) := by
    by_cases h : d.taken.length ≤ 1000
    · rw [decide_eq_true h, decide_eq_false (by omega)]; rfl
    · rw [decide_eq_false h, decide_eq_true (by omega)]; rfl
  have e4 : decide ((1000 : Int) < ((List.length d.refused : Nat) : Int)) = !decide (d.refused.length ≤ 1000) := by
    by_cases h : d.refused.length ≤ 1000
    · rw [decide_eq_true h, decide_eq_false (by omega)]; rfl
    · rw [decide_eq_false h, decide_eq_true (by omega)]; rfl
  rw [e1, e2, e3, e4]
  simp only [s_l23Ok_j1, L1, L2, L3, L4]
  unfold endB
  cases decide (1 ≤ d.buffer.length ∧ d.buffer.length ≤ 8) <;> try (simp; done)
  cases decide (0 ≤ d.top ∧ d.top ≤ 1000) <;> try (simp; done)
  cases decide (-1 ≤ d.bottom ∧ d.bottom ≤ 1000) <;> try (simp; done)
  cases hact : decide (1 ≤ d.actors.length ∧ d.actors.length ≤ 4) <;> try (simp; done)
  cases decide (d.taken.length ≤ 1000) <;> try (simp; done)
  cases decide (d.refused.length ≤ 1000) <;> try (simp; done)
  cases d.buffer.all (opB true) <;> try (simp; done)
  cases hA : actsB 0 d.actors <;> try (simp; done)
  cases d.taken.all (handB d.actors.length) <;> try (simp; done)
  cases d.refused.all taskB <;> try (simp; done)
  obtain ⟨a, l, hal⟩ : ∃ a l, d.actors = a :: l := by
    cases hh : d.actors with
    | nil => rw [hh] at hact; simp at hact
    | cons a l => exact ⟨a, l, rfl⟩
  rw [hal, actsB, Bool.and_eq_true] at hA
  rw [sRoom_eq d hal (by simpa using hA.1)]
  simp
/-! ### The program's side -/
theorem containsHanded (l : List Handed) (f : Handed → Option Bool) (p : Handed → Bool) (hl : l.length ≤ Big) (hf : ∀ x ∈ l, f x = some (p x)) : g_ContainsFunc_simpl_Handed l f = some (l.any p) := by
  obtain ⟨i, h1, h2, -⟩ := indexFunc_go g_IndexFunc_simpl_Handed_l1 (fun n l i f => by rw [g_IndexFunc_simpl_Handed_l1]) l f p hl hf
  unfold g_ContainsFunc_simpl_Handed g_IndexFunc_simpl_Handed
  rw [h1, bind_some']
  congr 1
  rw [Bool.eq_iff_iff, decide_eq_true_eq]; exact h2
theorem any_no {α : Type} {l : List α} {p : α → Bool} : l.any (fun y => !p y) = !l.all p := by
  induction l with
  | nil => rfl
  | cons x l ih => rw [List.any_cons, List.all_cons, ih]; cases p x <;> simp
theorem iBufOp_eq (y : Int) : i_ValidDeque_1 y = some (!opB true y) := by
  unfold i_ValidDeque_1 opB
  by_cases h : y = 0 <;> simp [h, iTask_eq, bind_some']
theorem iHand_eq (y : Handed) (d : Deque) : i_ValidDeque_2 y d = some (!handB d.actors.length y) := by
  unfold i_ValidDeque_2 handB
  rw [iEnd_eq, bind_some']
  by_cases h1 : y.actor < 0
  · simp [h1, show ¬ 0 ≤ y.actor by omega]
  · by_cases h2 : (d.actors.length : Int) ≤ y.actor
    · simp [h1, h2, show ¬ y.actor ≤ (d.actors.length : Int) - 1 by omega]
    · simp [h1, h2, show 0 ≤ y.actor by omega, show y.actor ≤ (d.actors.length : Int) - 1 by omega]
theorem iRefOp_eq (y : Int) : i_ValidDeque_3 y = some (!taskB y) := by unfold i_ValidDeque_3; rw [iTask_eq, bind_some']
theorem iTaking_eq (a : DequeActor) : i_DequeActor_taking a = some (takB a) := by
  unfold i_DequeActor_taking takB
  cases ht : a.todo with
  | nil => simp
  | cons op l =>
    have e0 : ∀ x : Int, at? (x :: l) 0 = some x := fun _ => rfl
    rw [decide_eq_true (by rw [List.length_cons]; omega), if_pos rfl, e0, bind_some']
    by_cases q : op = 0 <;> simp [q]
def iFin (a0 : Deque) : Option Bool := (if (decide (((List.length a0.buffer : Nat) : Int) < (IntKind.i64.wrap (a0.bottom - a0.top)))) = true then (i_ValidDeque_j5 a0 true) else (if (decide ((IntKind.i64.wrap (a0.bottom - a0.top)) < (-1))) = true then (i_ValidDeque_j5 a0 true) else (if (decide ((IntKind.i64.wrap (a0.bottom - a0.top)) = (-1))) = true then (Option.bind (at? a0.actors 0) fun v13015 => (Option.bind (i_DequeActor_taking v13015) fun v13017 => (i_ValidDeque_j5 a0 (!v13017)))) else (i_ValidDeque_j5 a0 false))))
theorem iActs_loop (d : Deque) (hl : d.actors.length ≤ Big) : ∀ (post pre : List DequeActor) (n : Nat), d.actors = pre ++ post → post.length < n → i_ValidDeque_l4 n d ((List.length pre : Nat) : Int) = if actsB pre.length post = true then iFin d else some false := by
  intro post
  induction post with
  | nil =>
    intro pre n h hn
    obtain ⟨n, rfl⟩ : ∃ m, n = m + 1 := ⟨n - 1, by omega⟩
    rw [i_ValidDeque_l4, ge_app h]; rfl
  | cons x post ih =>
    intro pre n h hn
    simp only [List.length_cons] at hn
    obtain ⟨n, rfl⟩ : ∃ m, n = m + 1 := ⟨n - 1, by omega⟩
    rw [i_ValidDeque_l4, if_pos (lt_app h), at_app h, bind_some', iAct_eq, bind_some', wrap_app h hl, ih (pre ++ [x]) n (next_app h) (by omega), actsB, zero_dec, List.length_append, List.length_singleton]
    cases actB x (decide (pre.length = 0)) <;> simp
theorem iFin_eq (d : Deque) {a : DequeActor} {l : List DequeActor} (h : d.actors = a :: l) : iFin d = i_ValidDeque_j5 d (!roomB d) := by
  unfold iFin roomB
  rw [h, show at? (a :: l) 0 = some a from rfl, bind_some', iTaking_eq, bind_some']
  generalize IntKind.i64.wrap (d.bottom - d.top) = z
  by_cases h1 : (d.buffer.length : Int) < z
  · simp [h1, show ¬ z ≤ (d.buffer.length : Int) by omega]
  · by_cases h2 : z < -1
    · rcases Bool.eq_false_or_eq_true (takB a) with ht | ht <;> simp [ht, h1, h2, show ¬ (-1 : Int) ≤ z by omega, show ¬ (0 : Int) ≤ z by omega]
    · by_cases h3 : z = -1
      · subst h3
        have hb : (-1 : Int) ≤ (d.buffer.length : Int) := by omega
        have hb2 : ¬ (d.buffer.length : Int) < -1 := by omega
        rcases Bool.eq_false_or_eq_true (takB a) with ht | ht <;> simp [ht, hb, hb2]
      · rcases Bool.eq_false_or_eq_true (takB a) with ht | ht <;> simp [ht, h1, h2, h3, show (-1 : Int) ≤ z by omega, show (0 : Int) ≤ z by omega, show z ≤ (d.buffer.length : Int) by omega]
theorem iDeq_eq (d : Deque) (h1 : d.buffer.length ≤ Big) (h2 : d.actors.length ≤ Big) (h3 : d.taken.length ≤ Big) (h4 : d.refused.length ≤ Big) : i_ValidDeque d = some (deqB d) := by
  have L2 := iActs_loop d h2 d.actors [] fuel rfl (by rw [fuel_eq]; unfold Big at h2; omega)
  simp only [List.length_nil, Int.natCast_zero] at L2
  have J6 : ∀ b, i_ValidDeque_j6 d b = some (!b && (d.taken.all (handB d.actors.length) && d.refused.all taskB)) := fun b => by
    unfold i_ValidDeque_j6
    rw [containsHanded d.taken _ (fun y => !handB d.actors.length y) h3 (fun x _ => iHand_eq x d), bind_some', containsInt d.refused _ (fun y => !taskB y) h4 (fun x _ => iRefOp_eq x), bind_some', any_no, any_no]
    cases b <;> cases d.taken.all (handB d.actors.length) <;> cases d.refused.all taskB <;> rfl
  have J5 : ∀ b, i_ValidDeque_j5 d b = some (!b && (decide (d.taken.length ≤ 1000) && (decide (d.refused.length ≤ 1000) && (d.taken.all (handB d.actors.length) && d.refused.all taskB)))) := fun b => by
    unfold i_ValidDeque_j5
    rw [J6, J6]
    have k1 : decide ((1000 : Int) < ((List.length d.taken : Nat) : Int)) = !decide (d.taken.length ≤ 1000) := by
      by_cases h : d.taken.length ≤ 1000
      · rw [decide_eq_true h, decide_eq_false (by omega)]; rfl
      · rw [decide_eq_false h, decide_eq_true (by omega)]; rfl
    have k2 : decide ((1000 : Int) < ((List.length d.refused : Nat) : Int)) = !decide (d.refused.length ≤ 1000) := by
      by_cases h : d.refused.length ≤ 1000
      · rw [decide_eq_true h, decide_eq_false (by omega)]; rfl
      · rw [decide_eq_false h, decide_eq_true (by omega)]; rfl
    rw [k1, k2]
    cases b <;> cases decide (d.taken.length ≤ 1000) <;> cases decide (d.refused.length ≤ 1000) <;> rfl
  unfold i_ValidDeque deqB
  rw [containsInt d.buffer _ (fun y => !opB true y) h1 (fun x _ => iBufOp_eq x), bind_some', any_no]
  by_cases b1 : 1 ≤ d.buffer.length
  rotate_left
  · have : ((List.length d.buffer : Nat) : Int) < 1 := by omega
    simp [this, i_ValidDeque_j1]; omega
  by_cases b2 : d.buffer.length ≤ 8
  rotate_left
  · have n1 : ¬ ((List.length d.buffer : Nat) : Int) < 1 := by omega
    have n2 : (8 : Int) < ((List.length d.buffer : Nat) : Int) := by omega
    simp [n1, n2, b2, i_ValidDeque_j1]
  have n1 : ¬ ((List.length d.buffer : Nat) : Int) < 1 := by omega
  have n2 : ¬ (8 : Int) < ((List.length d.buffer : Nat) : Int) := by omega
  rw [decide_eq_false n1, decide_eq_false n2, if_neg (by simp), if_neg (by simp), decide_eq_true ⟨b1, b2⟩, Bool.true_and]
  unfold i_ValidDeque_j1 i_ValidDeque_j2
  rw [iEnd_eq, bind_some', iEnd_eq, bind_some', L2]
  cases hbuf : d.buffer.all (opB true) with
  | false => simp
  | true =>
    by_cases a1 : 1 ≤ d.actors.length
    rotate_left
    · have : ((List.length d.actors : Nat) : Int) < 1 := by omega
      simp [this, show ¬ (1 ≤ d.actors.length) from a1]
    by_cases a2 : d.actors.length ≤ 4
    rotate_left
    · have m1 : ¬ ((List.length d.actors : Nat) : Int) < 1 := by omega
      have m2 : (4 : Int) < ((List.length d.actors : Nat) : Int) := by omega
      simp [m1, m2, a2]
    have m1 : ¬ ((List.length d.actors : Nat) : Int) < 1 := by omega
    have m2 : ¬ (4 : Int) < ((List.length d.actors : Nat) : Int) := by omega
    obtain ⟨a, l, hal⟩ : ∃ a l, d.actors = a :: l := by
      cases hh : d.actors with
      | nil => rw [hh] at a1; simp at a1
      | cons a l => exact ⟨a, l, rfl⟩
    rw [iFin_eq d hal, J5, decide_eq_false m1, decide_eq_false m2, show decide (1 ≤ d.actors.length ∧ d.actors.length ≤ 4) = true from decide_eq_true ⟨a1, a2⟩]
    have eb : decide (-1 ≤ d.bottom ∧ d.bottom ≤ 1000) = (decide (d.bottom = -1) || endB d.bottom) := by
      unfold endB
      by_cases q : d.bottom = -1
      · simp [q]
      · by_cases q2 : 0 ≤ d.bottom ∧ d.bottom ≤ 1000
        · rw [decide_eq_true q2, decide_eq_true (by omega)]; simp
        · rw [decide_eq_false q2, decide_eq_false (by omega), decide_eq_false q]; rfl
    rw [eb]
    cases endB d.top <;> cases decide (d.bottom = -1) <;> cases endB d.bottom <;> cases actsB 0 d.actors <;> cases roomB d <;> cases decide (d.taken.length ≤ 1000) <;> cases decide (d.refused.length ≤ 1000) <;> cases d.taken.all (handB d.actors.length) <;> cases d.refused.all taskB <;> rfl
end Go.Proofs.Ytckcfdggbbabfaa.Ab
