/-
  The laws' helpers for the types of this group: sizes, copies, comparisons. Printed by wip/ab/genhelp.py. No program is in sight.
-/
import Derived.Test.YtckcfdggbbabfaaModU
import Derived.Test.YtckcfdggbbabfaaPlG
import Derived.Test.YtckcfdggbbabfaaAbZ
import Derived.Test.YtckcfdggbbabfaaPlG
import Derived.Test.YtckcfdggbbabfaaAbZ
namespace Go.Proofs.Ytckcfdggbbabfaa.Ab
set_option linter.unusedVariables false
set_option linter.unusedSimpArgs false
open Go.RowKit

structure DequeActor.Ok (x : DequeActor) : Prop where
  todo : (x.todo.length ≤ 9223372036854775807 ∧ ∀ e ∈ x.todo, (Lit.int IntKind.i64 e).wf = true)
  pc : (Lit.int IntKind.i64 x.pc).wf = true
  t : (Lit.int IntKind.i64 x.t).wf = true
  b : (Lit.int IntKind.i64 x.b).wf = true
  x : (Lit.int IntKind.i64 x.x).wf = true
theorem DequeActor.ok_of (x : DequeActor) (h : oksC (DequeActor.ds x)) : x.Ok := by
  rw [DequeActor.ds_eq] at h
  simp only [oksC, D.ok, List.length_map] at h
  obtain ⟨h1, h2, h3, h4, h5, -⟩ := h
  exact ⟨⟨h1.1, fun e he => by have := (oksR_mem h1.2 he); simpa only [i64D, oksC, D.ok, and_true] using this⟩, h2, h3, h4, h5⟩
theorem DequeActor.eq_iff (x y : DequeActor) : x = y ↔ x.todo = y.todo ∧ x.pc = y.pc ∧ x.t = y.t ∧ x.b = y.b ∧ x.x = y.x := by
  cases x; cases y; simp only [DequeActor.mk.injEq]
def DequeActor.sz (x : DequeActor) : Nat := x.todo.length + 0
theorem szDequeActor_eq (x : DequeActor) (h : x.Ok) (left : Nat) (h1 : left ≤ 1048576) : l_szDequeActor x left = some (szr x.sz left) := by
  unfold l_szDequeActor DequeActor.sz
  exact sz_step (szInt64S_eq _ _ (by omega) h.todo.1) fun _ => sz_end
theorem szDequeActorS_eq (l : List DequeActor) (hl : l.length ≤ 9223372036854775807) (h : ∀ x ∈ l, x.Ok) (left : Nat) (h1 : left ≤ 1048576) : l_szDequeActorS l left = some (szr (szl DequeActor.sz l) left) := by
  unfold l_szDequeActorS
  exact gSz (fun n p i => l_szDequeActorS_l1 n l p i) l_szDequeActor DequeActor.sz l (fun n p i => by rw [l_szDequeActorS_l1]) left h1 (fun x hx k hk => szDequeActor_eq x (h x hx) k hk) hl
theorem toDequeActor_eq (x : DequeActor) (h : x.sz ≤ Big) : l_toDequeActor x = some x := by
  unfold l_toDequeActor
  rw [toInt64S_eq _ (by have := h; simp only [DequeActor.sz] at this; omega), bind_some']
  first | done | rfl
theorem toDequeActorS_eq (l : List DequeActor) (hl : szl DequeActor.sz l ≤ Big) : l_toDequeActorS l = some l := by
  unfold l_toDequeActorS
  exact gTo (fun n acc i => l_toDequeActorS_l2 n l acc i) l_toDequeActor _ l (fun n acc i => by rw [l_toDequeActorS_l2]) (by have := szl_len DequeActor.sz l; omega) (fun x hx => toDequeActor_eq x (by have := szl_mem (s := DequeActor.sz) hx; omega))
theorem eqDequeActor_tells (x y : DequeActor) (h : x.sz ≤ Big) : Tells (l_eqDequeActor x y) (x = y) := by
  unfold l_eqDequeActor
  exact Tells.iff (tells_bind_ifn (eqInt64S_tells _ _ (by have := h; simp only [DequeActor.sz] at this; omega)) fun _ => tells_ifn dec_iff fun _ => tells_ifn dec_iff fun _ => tells_ifn dec_iff fun _ => tells_ifn dec_iff fun _ => tells_true) (by rw [DequeActor.eq_iff]; simp only [and_true])
theorem eqDequeActorS_tells (l m : List DequeActor) (hl : szl DequeActor.sz l ≤ Big) : Tells (l_eqDequeActorS l m) (l = m) := by
  unfold l_eqDequeActorS
  exact gEqS (fun n i => l_eqDequeActorS_l1 n l m i) l_eqDequeActor l m (fun n i => by rw [l_eqDequeActorS_l1]) (by have := szl_len DequeActor.sz l; omega) fun x hx y _ => eqDequeActor_tells x y (by have := szl_mem (s := DequeActor.sz) hx; omega)
structure Handed.Ok (x : Handed) : Prop where
  actor : (Lit.int IntKind.i64 x.actor).wf = true
  value : (Lit.int IntKind.i64 x.value).wf = true
theorem Handed.ok_of (x : Handed) (h : oksC (Handed.ds x)) : x.Ok := by
  rw [Handed.ds_eq] at h
  simp only [oksC, D.ok, List.length_map] at h
  obtain ⟨h1, h2, -⟩ := h
  exact ⟨h1, h2⟩
theorem Handed.eq_iff (x y : Handed) : x = y ↔ x.actor = y.actor ∧ x.value = y.value := by
  cases x; cases y; simp only [Handed.mk.injEq]
theorem szHandedS_eq (l : List Handed) (hl : l.length ≤ 9223372036854775807) (h : ∀ x ∈ l, x.Ok) (left : Nat) (h1 : left ≤ 1048576) : l_szHandedS l left = some (szr l.length left) := by
  unfold l_szHandedS
  exact sz_here h1 hl fun _ => sz_end
theorem toHanded_eq (x : Handed) : l_toHanded x = some x := by
  unfold l_toHanded
  rfl
theorem toHandedS_eq (l : List Handed) (hl : l.length ≤ Big) : l_toHandedS l = some l := by
  unfold l_toHandedS
  exact gTo (fun n acc i => l_toHandedS_l2 n l acc i) l_toHanded _ l (fun n acc i => by rw [l_toHandedS_l2]) hl (fun x hx => toHanded_eq x)
theorem eqHanded_tells (x y : Handed) : Tells (l_eqHanded x y) (x = y) := by
  unfold l_eqHanded
  exact Tells.iff (tells_ifn dec_iff fun _ => tells_ifn dec_iff fun _ => tells_true) (by rw [Handed.eq_iff]; simp only [and_true])
theorem eqHandedS_tells (l m : List Handed) (hl : l.length ≤ Big) : Tells (l_eqHandedS l m) (l = m) := by
  unfold l_eqHandedS
  exact gEqS (fun n i => l_eqHandedS_l1 n l m i) l_eqHanded l m (fun n i => by rw [l_eqHandedS_l1]) hl fun x hx y _ => eqHanded_tells x y
structure Deque.Ok (x : Deque) : Prop where
  top : (Lit.int IntKind.i64 x.top).wf = true
  bottom : (Lit.int IntKind.i64 x.bottom).wf = true
  buffer : (x.buffer.length ≤ 9223372036854775807 ∧ ∀ e ∈ x.buffer, (Lit.int IntKind.i64 e).wf = true)
  actors : (x.actors.length ≤ 9223372036854775807 ∧ ∀ e ∈ x.actors, DequeActor.Ok e)
  taken : (x.taken.length ≤ 9223372036854775807 ∧ ∀ e ∈ x.taken, Handed.Ok e)
  refused : (x.refused.length ≤ 9223372036854775807 ∧ ∀ e ∈ x.refused, (Lit.int IntKind.i64 e).wf = true)
theorem Deque.ok_of (x : Deque) (h : oksC (Deque.ds x)) : x.Ok := by
  rw [Deque.ds_eq] at h
  simp only [oksC, D.ok, List.length_map] at h
  obtain ⟨h1, h2, h3, h4, h5, h6, -⟩ := h
  exact ⟨h1, h2, ⟨h3.1, fun e he => by have := (oksR_mem h3.2 he); simpa only [i64D, oksC, D.ok, and_true] using this⟩, ⟨h4.1, fun e he => DequeActor.ok_of e (oksR_mem h4.2 he)⟩, ⟨h5.1, fun e he => Handed.ok_of e (oksR_mem h5.2 he)⟩, ⟨h6.1, fun e he => by have := (oksR_mem h6.2 he); simpa only [i64D, oksC, D.ok, and_true] using this⟩⟩
theorem Deque.eq_iff (x y : Deque) : x = y ↔ x.top = y.top ∧ x.bottom = y.bottom ∧ x.buffer = y.buffer ∧ x.actors = y.actors ∧ x.taken = y.taken ∧ x.refused = y.refused := by
  cases x; cases y; simp only [Deque.mk.injEq]
def Deque.sz (x : Deque) : Nat := x.buffer.length + (szl DequeActor.sz x.actors + (x.taken.length + (x.refused.length + 0)))
theorem szDeque_eq (x : Deque) (h : x.Ok) (left : Nat) (h1 : left ≤ 1048576) : l_szDeque x left = some (szr x.sz left) := by
  unfold l_szDeque Deque.sz
  exact sz_step (szInt64S_eq _ _ (by omega) h.buffer.1) fun _ => sz_step (szDequeActorS_eq _ h.actors.1 h.actors.2 _ (by omega)) fun _ => sz_step (szHandedS_eq _ h.taken.1 h.taken.2 _ (by omega)) fun _ => sz_step (szInt64S_eq _ _ (by omega) h.refused.1) fun _ => sz_end
theorem toDeque_eq (x : Deque) (h : x.sz ≤ Big) : l_toDeque x = some x := by
  unfold l_toDeque
  rw [toInt64S_eq _ (by have := h; simp only [Deque.sz] at this; omega), bind_some']
  rw [toDequeActorS_eq _ (by have := h; simp only [Deque.sz] at this; omega), bind_some']
  rw [toHandedS_eq _ (by have := h; simp only [Deque.sz] at this; omega), bind_some']
  rw [toInt64S_eq _ (by have := h; simp only [Deque.sz] at this; omega), bind_some']
  first | done | rfl
theorem eqDeque_tells (x y : Deque) (h : x.sz ≤ Big) : Tells (l_eqDeque x y) (x = y) := by
  unfold l_eqDeque
  exact Tells.iff (tells_ifn dec_iff fun _ => tells_ifn dec_iff fun _ => tells_bind_ifn (eqInt64S_tells _ _ (by have := h; simp only [Deque.sz] at this; omega)) fun _ => tells_bind_ifn (eqDequeActorS_tells _ _ (by have := h; simp only [Deque.sz] at this; omega)) fun _ => tells_bind_ifn (eqHandedS_tells _ _ (by have := h; simp only [Deque.sz] at this; omega)) fun _ => tells_bind_ifn (eqInt64S_tells _ _ (by have := h; simp only [Deque.sz] at this; omega)) fun _ => tells_true) (by rw [Deque.eq_iff]; simp only [and_true])
end Go.Proofs.Ytckcfdggbbabfaa.Ab
