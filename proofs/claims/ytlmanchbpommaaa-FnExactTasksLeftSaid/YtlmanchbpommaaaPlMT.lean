/-
  Marks and what is found of them: the helpers of this group. Printed by wip/ab/genhelp.py. No program is in sight.
-/
import Derived.Test.YtlmanchbpommaaaPlM
import Derived.Test.YtlmanchbpommaaaPlTT
namespace Go.Proofs.Ytlmanchbpommaaa.Ab
set_option linter.unusedVariables false
set_option linter.unusedSimpArgs false
open Go.RowKit

theorem markInt64S_eq (l : List Int) (k : Nat) (h : l.length ≤ Big) (hk : k + cnts one l ≤ KB) : l_markInt64S l (k : Int) = some (((k + cnts one l : Nat) : Int), mks mkI one k l) := by
  unfold l_markInt64S
  refine gMark (fun n l k i => l_markInt64S_l1 n l k i) mkI one (fun _ => True) ?_ ?_ l k (fun _ _ => trivial) h hk
  · intro n pre post x k hx hk hp
    have e : k + one x = k + 1 := by rfl
    rw [e] at hk ⊢
    rw [l_markInt64S_l1, if_pos lt_mid]
    simp (disch := omega) only [at_mid, set_mid, bind_some', wk, wrap_len]
    rfl
  · intro n l k; rw [l_markInt64S_l1, if_neg (by rw [ge_len]; decide)]
theorem heldInt64S_eq (l : List Int) (k : Nat) (h : l.length ≤ Big) (hk : k + cnts one l ≤ KB) : l_heldInt64S (mks mkI one k l) (k : Int) = some ((k + cnts one l : Nat) : Int) := by
  unfold l_heldInt64S
  refine gHeld (fun n l k i => l_heldInt64S_l1 n l k i) mkI one (fun _ => True) ?_ ?_ l k (fun _ _ => trivial) h hk
  · intro n pre post x k hx hk hp
    have e : k + one x = k + 1 := by rfl
    rw [e] at hk ⊢
    rw [l_heldInt64S_l1, if_pos lt_mid]
    simp (disch := omega) only [mkI, at_mid, bind_some', wk, wrap_len, nneg, eq_self, decide_true, Bool.not_true, Bool.false_eq_true, reduceIte]
  · intro n l k; rw [l_heldInt64S_l1, if_neg (by rw [ge_len]; decide)]
def DequeActor.cnt (x : DequeActor) : Nat := cnts one x.todo + 1 + 1 + 1 + 1
def DequeActor.mk1 (k : Nat) (x : DequeActor) : DequeActor := ⟨mks mkI one (k) x.todo, mkI (k + cnts one x.todo) x.pc, mkI (k + cnts one x.todo + 1) x.t, mkI (k + cnts one x.todo + 1 + 1) x.b, mkI (k + cnts one x.todo + 1 + 1 + 1) x.x⟩
def DequeActor.cntV (x : DequeActor) : Nat := cnts one x.todo
def DequeActor.mkV (k : Nat) (x : DequeActor) : DequeActor := ⟨mks mkI one (k) x.todo, x.pc, x.t, x.b, x.x⟩
theorem DequeActor.cnt_le (x : DequeActor) : x.cnt ≤ 4 + 4 * x.sz := by
  simp only [DequeActor.cnt, DequeActor.sz]
  have := cnts_flat (c := one) (b := 1) (l := x.todo) (fun x => one_le)
  omega
theorem DequeActor.cntV_le (x : DequeActor) : x.cntV ≤ 4 + 4 * x.sz := by
  simp only [DequeActor.cntV, DequeActor.sz]
  have := cnts_flat (c := one) (b := 1) (l := x.todo) (fun x => one_le)
  omega
theorem markDequeActorS_eq (l : List DequeActor) (k : Nat) (h : szl DequeActor.sz l ≤ Big) (hk : k + cnts DequeActor.cnt l ≤ KB) : l_markDequeActorS l (k : Int) = some (((k + cnts DequeActor.cnt l : Nat) : Int), mks DequeActor.mk1 DequeActor.cnt k l) := by
  unfold l_markDequeActorS
  refine gMark (fun n l k i => l_markDequeActorS_l1 n l k i) DequeActor.mk1 DequeActor.cnt (fun x => x.sz ≤ Big) ?_ ?_ l k (fun x hx => by have := szl_mem (s := DequeActor.sz) hx; omega) (by have := szl_len DequeActor.sz l; omega) hk
  · intro n pre post x k hx hk hp
    have e : k + DequeActor.cnt x = k + cnts one x.todo + 1 + 1 + 1 + 1 := by unfold DequeActor.cnt; omega
    rw [e] at hk ⊢
    simp only [DequeActor.sz] at hx
    rw [l_markDequeActorS_l1, if_pos lt_mid]
    simp (disch := omega) only [at_mid, set_mid, bind_some', wk, wrap_len, markInt64S_eq]
    rfl
  · intro n l k; rw [l_markDequeActorS_l1, if_neg (by rw [ge_len]; decide)]
def Handed.cnt (x : Handed) : Nat := 1 + 1
def Handed.mk1 (k : Nat) (x : Handed) : Handed := ⟨mkI (k) x.actor, mkI (k + 1) x.value⟩
def Handed.cntV (x : Handed) : Nat := 0
def Handed.mkV (k : Nat) (x : Handed) : Handed := ⟨x.actor, x.value⟩
theorem Handed.cnt_le (x : Handed) : x.cnt ≤ 2 := by unfold Handed.cnt; omega
theorem markHandedS_eq (l : List Handed) (k : Nat) (h : l.length ≤ Big) (hk : k + cnts Handed.cnt l ≤ KB) : l_markHandedS l (k : Int) = some (((k + cnts Handed.cnt l : Nat) : Int), mks Handed.mk1 Handed.cnt k l) := by
  unfold l_markHandedS
  refine gMark (fun n l k i => l_markHandedS_l1 n l k i) Handed.mk1 Handed.cnt (fun _ => True) ?_ ?_ l k (fun _ _ => trivial) h hk
  · intro n pre post x k hx hk hp
    have e : k + Handed.cnt x = k + 1 + 1 := by unfold Handed.cnt; omega
    rw [e] at hk ⊢
    rw [l_markHandedS_l1, if_pos lt_mid]
    simp (disch := omega) only [at_mid, set_mid, bind_some', wk, wrap_len, markInt64S_eq, markDequeActorS_eq]
    rfl
  · intro n l k; rw [l_markHandedS_l1, if_neg (by rw [ge_len]; decide)]
def Deque.cnt (x : Deque) : Nat := 1 + 1 + cnts one x.buffer + cnts DequeActor.cnt x.actors + cnts Handed.cnt x.taken + cnts one x.refused
def Deque.mk1 (k : Nat) (x : Deque) : Deque := ⟨mkI (k) x.top, mkI (k + 1) x.bottom, mks mkI one (k + 1 + 1) x.buffer, mks DequeActor.mk1 DequeActor.cnt (k + 1 + 1 + cnts one x.buffer) x.actors, mks Handed.mk1 Handed.cnt (k + 1 + 1 + cnts one x.buffer + cnts DequeActor.cnt x.actors) x.taken, mks mkI one (k + 1 + 1 + cnts one x.buffer + cnts DequeActor.cnt x.actors + cnts Handed.cnt x.taken) x.refused⟩
def Deque.cntV (x : Deque) : Nat := cnts one x.buffer + cnts DequeActor.cnt x.actors + cnts Handed.cnt x.taken + cnts one x.refused
def Deque.mkV (k : Nat) (x : Deque) : Deque := ⟨x.top, x.bottom, mks mkI one (k) x.buffer, mks DequeActor.mk1 DequeActor.cnt (k + cnts one x.buffer) x.actors, mks Handed.mk1 Handed.cnt (k + cnts one x.buffer + cnts DequeActor.cnt x.actors) x.taken, mks mkI one (k + cnts one x.buffer + cnts DequeActor.cnt x.actors + cnts Handed.cnt x.taken) x.refused⟩
theorem Deque.cnt_le (x : Deque) : x.cnt ≤ 4 + 4 * x.sz := by
  simp only [Deque.cnt, Deque.sz]
  have := cnts_flat (c := one) (b := 1) (l := x.buffer) (fun x => one_le)
  have := cnts_le (c := DequeActor.cnt) (s := DequeActor.sz) (b := 4) (l := x.actors) (fun x => DequeActor.cnt_le x)
  have := cnts_flat (c := Handed.cnt) (b := 2) (l := x.taken) (fun x => Handed.cnt_le x)
  have := cnts_flat (c := one) (b := 1) (l := x.refused) (fun x => one_le)
  omega
theorem Deque.cntV_le (x : Deque) : x.cntV ≤ 4 + 4 * x.sz := by
  simp only [Deque.cntV, Deque.sz]
  have := cnts_flat (c := one) (b := 1) (l := x.buffer) (fun x => one_le)
  have := cnts_le (c := DequeActor.cnt) (s := DequeActor.sz) (b := 4) (l := x.actors) (fun x => DequeActor.cnt_le x)
  have := cnts_flat (c := Handed.cnt) (b := 2) (l := x.taken) (fun x => Handed.cnt_le x)
  have := cnts_flat (c := one) (b := 1) (l := x.refused) (fun x => one_le)
  omega
theorem markDeque_eq (x : Deque) (k : Nat) (h : x.sz ≤ Big) (hk : k + x.cntV ≤ KB) : l_markDeque x (k : Int) = some (((k + x.cntV : Nat) : Int), mks mkI one (k) x.buffer, mks DequeActor.mk1 DequeActor.cnt (k + cnts one x.buffer) x.actors, mks Handed.mk1 Handed.cnt (k + cnts one x.buffer + cnts DequeActor.cnt x.actors) x.taken, mks mkI one (k + cnts one x.buffer + cnts DequeActor.cnt x.actors + cnts Handed.cnt x.taken) x.refused) := by
  have e : k + x.cntV = k + cnts one x.buffer + cnts DequeActor.cnt x.actors + cnts Handed.cnt x.taken + cnts one x.refused := by unfold Deque.cntV; omega
  rw [e] at hk ⊢
  simp only [Deque.sz] at h
  unfold l_markDeque
  simp (disch := omega) only [bind_some', wk, markInt64S_eq, markDequeActorS_eq, markHandedS_eq]
end Go.Proofs.Ytlmanchbpommaaa.Ab
