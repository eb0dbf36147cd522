/-
  The laws' helpers for the types of this group: sizes, copies, comparisons. Printed by wip/ab/genhelp.py. No program is in sight.
-/
import Derived.Test.YtocpkbclcnjejaaModU
import Derived.Test.YtocpkbclcnjejaaPlG
import Derived.Test.YtocpkbclcnjejaaAbZ
namespace Go.Proofs.Ytocpkbclcnjejaa.Ab
set_option linter.unusedVariables false
set_option linter.unusedSimpArgs false
open Go.RowKit

structure Port.Ok (x : Port) : Prop where
  agent : (Lit.int IntKind.i64 x.agent).wf = true
  slot : (Lit.int IntKind.i64 x.slot).wf = true
theorem Port.ok_of (x : Port) (h : oksC (Port.ds x)) : x.Ok := by
  rw [Port.ds_eq] at h
  simp only [oksC, D.ok, List.length_map] at h
  obtain ⟨h1, h2, -⟩ := h
  exact ⟨h1, h2⟩
theorem Port.eq_iff (x y : Port) : x = y ↔ x.agent = y.agent ∧ x.slot = y.slot := by
  cases x; cases y; simp only [Port.mk.injEq]
theorem szPortS_eq (l : List Port) (hl : l.length ≤ 9223372036854775807) (h : ∀ x ∈ l, x.Ok) (left : Nat) (h1 : left ≤ 1048576) : l_szPortS l left = some (szr l.length left) := by
  unfold l_szPortS
  exact sz_here h1 hl fun _ => sz_end
theorem toPort_eq (x : Port) : l_toPort x = some x := by
  unfold l_toPort
  rfl
theorem toPortS_eq (l : List Port) (hl : l.length ≤ Big) : l_toPortS l = some l := by
  unfold l_toPortS
  exact gTo (fun n acc i => l_toPortS_l2 n l acc i) l_toPort _ l (fun n acc i => by rw [l_toPortS_l2]) hl (fun x hx => toPort_eq x)
theorem eqPort_tells (x y : Port) : Tells (l_eqPort x y) (x = y) := by
  unfold l_eqPort
  exact Tells.iff (tells_ifn dec_iff fun _ => tells_ifn dec_iff fun _ => tells_true) (by rw [Port.eq_iff]; simp only [and_true])
theorem eqPortS_tells (l m : List Port) (hl : l.length ≤ Big) : Tells (l_eqPortS l m) (l = m) := by
  unfold l_eqPortS
  exact gEqS (fun n i => l_eqPortS_l1 n l m i) l_eqPort l m (fun n i => by rw [l_eqPortS_l1]) hl fun x hx y _ => eqPort_tells x y
structure Agent.Ok (x : Agent) : Prop where
  kind : (Lit.int IntKind.i64 x.kind).wf = true
  level : (Lit.int IntKind.i64 x.level).wf = true
  value : (Lit.int IntKind.i64 x.value).wf = true
  data : (x.data.length ≤ 9223372036854775807 ∧ ∀ e ∈ x.data, (Lit.int IntKind.i64 e).wf = true)
  ports : (x.ports.length ≤ 9223372036854775807 ∧ ∀ e ∈ x.ports, Port.Ok e)
theorem Agent.ok_of (x : Agent) (h : oksC (Agent.ds x)) : x.Ok := by
  rw [Agent.ds_eq] at h
  simp only [oksC, D.ok, List.length_map] at h
  obtain ⟨h1, h2, h3, h4, h5, -⟩ := h
  exact ⟨h1, h2, h3, ⟨h4.1, fun e he => by have := (oksR_mem h4.2 he); simpa only [i64D, oksC, D.ok, and_true] using this⟩, ⟨h5.1, fun e he => Port.ok_of e (oksR_mem h5.2 he)⟩⟩
theorem Agent.eq_iff (x y : Agent) : x = y ↔ x.kind = y.kind ∧ x.level = y.level ∧ x.value = y.value ∧ x.data = y.data ∧ x.ports = y.ports := by
  cases x; cases y; simp only [Agent.mk.injEq]
def Agent.sz (x : Agent) : Nat := x.data.length + (x.ports.length + 0)
theorem szAgent_eq (x : Agent) (h : x.Ok) (left : Nat) (h1 : left ≤ 1048576) : l_szAgent x left = some (szr x.sz left) := by
  unfold l_szAgent Agent.sz
  exact sz_step (szInt64S_eq _ _ (by omega) h.data.1) fun _ => sz_step (szPortS_eq _ h.ports.1 h.ports.2 _ (by omega)) fun _ => sz_end
theorem szAgentS_eq (l : List Agent) (hl : l.length ≤ 9223372036854775807) (h : ∀ x ∈ l, x.Ok) (left : Nat) (h1 : left ≤ 1048576) : l_szAgentS l left = some (szr (szl Agent.sz l) left) := by
  unfold l_szAgentS
  exact gSz (fun n p i => l_szAgentS_l1 n l p i) l_szAgent Agent.sz l (fun n p i => by rw [l_szAgentS_l1]) left h1 (fun x hx k hk => szAgent_eq x (h x hx) k hk) hl
theorem toAgent_eq (x : Agent) (h : x.sz ≤ Big) : l_toAgent x = some x := by
  unfold l_toAgent
  rw [toInt64S_eq _ (by have := h; simp only [Agent.sz] at this; omega), bind_some']
  rw [toPortS_eq _ (by have := h; simp only [Agent.sz] at this; omega), bind_some']
  first | done | rfl
theorem toAgentS_eq (l : List Agent) (hl : szl Agent.sz l ≤ Big) : l_toAgentS l = some l := by
  unfold l_toAgentS
  exact gTo (fun n acc i => l_toAgentS_l2 n l acc i) l_toAgent _ l (fun n acc i => by rw [l_toAgentS_l2]) (by have := szl_len Agent.sz l; omega) (fun x hx => toAgent_eq x (by have := szl_mem (s := Agent.sz) hx; omega))
theorem eqAgent_tells (x y : Agent) (h : x.sz ≤ Big) : Tells (l_eqAgent x y) (x = y) := by
  unfold l_eqAgent
  exact Tells.iff (tells_ifn dec_iff fun _ => tells_ifn dec_iff fun _ => tells_ifn dec_iff fun _ => tells_bind_ifn (eqInt64S_tells _ _ (by have := h; simp only [Agent.sz] at this; omega)) fun _ => tells_bind_ifn (eqPortS_tells _ _ (by have := h; simp only [Agent.sz] at this; omega)) fun _ => tells_true) (by rw [Agent.eq_iff]; simp only [and_true])
theorem eqAgentS_tells (l m : List Agent) (hl : szl Agent.sz l ≤ Big) : Tells (l_eqAgentS l m) (l = m) := by
  unfold l_eqAgentS
  exact gEqS (fun n i => l_eqAgentS_l1 n l m i) l_eqAgent l m (fun n i => by rw [l_eqAgentS_l1]) (by have := szl_len Agent.sz l; omega) fun x hx y _ => eqAgent_tells x y (by have := szl_mem (s := Agent.sz) hx; omega)
structure Net.Ok (x : Net) : Prop where
  agents : (x.agents.length ≤ 9223372036854775807 ∧ ∀ e ∈ x.agents, Agent.Ok e)
theorem Net.ok_of (x : Net) (h : oksC (Net.ds x)) : x.Ok := by
  rw [Net.ds_eq] at h
  simp only [oksC, D.ok, List.length_map] at h
  obtain ⟨h1, -⟩ := h
  exact ⟨⟨h1.1, fun e he => Agent.ok_of e (oksR_mem h1.2 he)⟩⟩
theorem Net.eq_iff (x y : Net) : x = y ↔ x.agents = y.agents := by
  cases x; cases y; simp only [Net.mk.injEq]
def Net.sz (x : Net) : Nat := szl Agent.sz x.agents + 0
theorem szNet_eq (x : Net) (h : x.Ok) (left : Nat) (h1 : left ≤ 1048576) : l_szNet x left = some (szr x.sz left) := by
  unfold l_szNet Net.sz
  exact sz_step (szAgentS_eq _ h.agents.1 h.agents.2 _ (by omega)) fun _ => sz_end
theorem toNet_eq (x : Net) (h : x.sz ≤ Big) : l_toNet x = some x := by
  unfold l_toNet
  rw [toAgentS_eq _ (by have := h; simp only [Net.sz] at this; omega), bind_some']
  first | done | rfl
theorem eqNet_tells (x y : Net) (h : x.sz ≤ Big) : Tells (l_eqNet x y) (x = y) := by
  unfold l_eqNet
  exact Tells.iff (tells_bind_ifn (eqAgentS_tells _ _ (by have := h; simp only [Net.sz] at this; omega)) fun _ => tells_true) (by rw [Net.eq_iff]; simp only [and_true])
end Go.Proofs.Ytocpkbclcnjejaa.Ab
