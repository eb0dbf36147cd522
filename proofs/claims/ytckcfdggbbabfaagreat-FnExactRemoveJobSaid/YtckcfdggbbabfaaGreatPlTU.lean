/-
  The laws' helpers for the types of this group: sizes, copies, comparisons. Printed by wip/ab/genhelp.py. No program is in sight.
-/
import Derived.Test.YtckcfdggbbabfaaGreatModU
import Derived.Test.YtckcfdggbbabfaaGreatPlG
import Derived.Test.YtckcfdggbbabfaaGreatAbZ
import Derived.Test.YtckcfdggbbabfaaGreatPlG
import Derived.Test.YtckcfdggbbabfaaGreatPlM
namespace Go.Proofs.YtckcfdggbbabfaaGreat.Ab
set_option linter.unusedVariables false
set_option linter.unusedSimpArgs false
open Go.RowKit
structure Port.Ok (x : Port) : Prop where
 agent : (Lit.int IntKind.i64 x.agent).wf = true
 slot : (Lit.int IntKind.i64 x.slot).wf = true
theorem Port.ok_of (x : Port) (h : oksC (Port.ds x)) : x.Ok := by
 rw [Port.ds_eq] at h
 simp only [oksC, D.ok, List.length_map] at h
 obtain ⟨h1, h2, -⟩ := h
 exact ⟨h1, h2⟩
theorem Port.eq_iff (x y : Port) : x = y ↔ x.agent = y.agent ∧ x.slot = y.slot := by
 cases x; cases y; simp only [Port.mk.injEq]
theorem szPortS_eq (l : List Port) (hl : l.length ≤ 9223372036854775807) (h : ∀ x ∈ l, x.Ok) (left : Nat) (h1 : left ≤ 1048576) : l_szPortS l left = some (szr l.length left) := by
 unfold l_szPortS
 exact sz_here h1 hl fun _ => sz_end
theorem toPort_eq (x : Port) : l_toPort x = some x := by
 unfold l_toPort
 rfl
theorem toPortS_eq (l : List Port) (hl : l.length ≤ Big) : l_toPortS l = some l := by
 unfold l_toPortS
 exact gTo (fun n acc i => l_toPortS_l2 n l acc i) l_toPort _ l (fun n acc i => by rw [l_toPortS_l2]) hl (fun x hx => toPort_eq x)
theorem eqPort_tells (x y : Port) : Tells (l_eqPort x y) (x = y) := by
 unfold l_eqPort
 exact Tells.iff (tells_ifn dec_iff fun _ => tells_ifn dec_iff fun _ => tells_true) (by rw [Port.eq_iff]; simp only [and_true])
theorem eqPortS_tells (l m : List Port) (hl : l.length ≤ Big) : Tells (l_eqPortS l m) (l = m) := by
 unfold l_eqPortS
 exact gEqS (fun n i => l_eqPortS_l1 n l m i) l_eqPort l m (fun n i => by rw [l_eqPortS_l1]) hl fun x hx y _ => eqPort_tells x y
structure Agent.Ok (x : Agent) : Prop where
 kind : (Lit.int IntKind.i64 x.kind).wf = true
 level : (Lit.int IntKind.i64 x.level).wf = true
 value : (Lit.int IntKind.i64 x.value).wf = true
 data : (x.data.length ≤ 9223372036854775807 ∧ ∀ e ∈ x.data, (Lit.int IntKind.i64 e).wf = true)
 ports : (x.ports.length ≤ 9223372036854775807 ∧ ∀ e ∈ x.ports, Port.Ok e)
theorem Agent.ok_of (x : Agent) (h : oksC (Agent.ds x)) : x.Ok := by
 rw [Agent.ds_eq] at h
 simp only [oksC, D.ok, List.length_map] at h
 obtain ⟨h1, h2, h3, h4, h5, -⟩ := h
 exact ⟨h1, h2, h3, ⟨h4.1, fun e he => by have := (oksR_mem h4.2 he); simpa only [i64D, oksC, D.ok, and_true] using this⟩, ⟨h5.1, fun e he => Port.ok_of e (oksR_mem h5.2 he)⟩⟩
theorem Agent.eq_iff (x y : Agent) : x = y ↔ x.kind = y.kind ∧ x.level = y.level ∧ x.value = y.value ∧ x.data = y.data ∧ x.ports = y.ports := by
 cases x; cases y; simp only [Agent.mk.injEq]
def Agent.sz (x : Agent) : Nat := x.data.length + (x.ports.length + 0)
theorem szAgent_eq (x : Agent) (h : x.Ok) (left : Nat) (h1 : left ≤ 1048576) : l_szAgent x left = some (szr x.sz left) := by
 unfold l_szAgent Agent.sz
 exact sz_step (szInt64S_eq _ _ (by omega) h.data.1) fun _ => sz_step (szPortS_eq _ h.ports.1 h.ports.2 _ (by omega)) fun _ => sz_end
theorem szAgentS_eq (l : List Agent) (hl : l.length ≤ 9223372036854775807) (h : ∀ x ∈ l, x.Ok) (left : Nat) (h1 : left ≤ 1048576) : l_szAgentS l left = some (szr (szl Agent.sz l) left) := by
 unfold l_szAgentS
 exact gSz (fun n p i => l_szAgentS_l1 n l p i) l_szAgent Agent.sz l (fun n p i => by rw [l_szAgentS_l1]) left h1 (fun x hx k hk => szAgent_eq x (h x hx) k hk) hl
theorem toAgent_eq (x : Agent) (h : x.sz ≤ Big) : l_toAgent x = some x := by
 unfold l_toAgent
 rw [toInt64S_eq _ (by have := h; simp only [Agent.sz] at this; omega), bind_some']
 rw [toPortS_eq _ (by have := h; simp only [Agent.sz] at this; omega), bind_some']
 first | done | rfl
theorem toAgentS_eq (l : List Agent) (hl : szl Agent.sz l ≤ Big) : l_toAgentS l = some l := by
 unfold l_toAgentS
 exact gTo (fun n acc i => l_toAgentS_l2 n l acc i) l_toAgent _ l (fun n acc i => by rw [l_toAgentS_l2]) (by have := szl_len Agent.sz l; omega) (fun x hx => toAgent_eq x (by have := szl_mem (s := Agent.sz) hx; omega))
theorem eqAgent_tells (x y : Agent) (h : x.sz ≤ Big) : Tells (l_eqAgent x y) (x = y) := by
 unfold l_eqAgent
 exact Tells.iff (tells_ifn dec_iff fun _ => tells_ifn dec_iff fun _ => tells_ifn dec_iff fun _ => tells_bind_ifn (eqInt64S_tells _ _ (by have := h; simp only [Agent.sz] at this; omega)) fun _ => tells_bind_ifn (eqPortS_tells _ _ (by have := h; simp only [Agent.sz] at this; omega)) fun _ => tells_true) (by rw [Agent.eq_iff]; simp only [and_true])
theorem eqAgentS_tells (l m : List Agent) (hl : szl Agent.sz l ≤ Big) : Tells (l_eqAgentS l m) (l = m) := by
 unfold l_eqAgentS
 exact gEqS (fun n i => l_eqAgentS_l1 n l m i) l_eqAgent l m (fun n i => by rw [l_eqAgentS_l1]) (by have := szl_len Agent.sz l; omega) fun x hx y _ => eqAgent_tells x y (by have := szl_mem (s := Agent.sz) hx; omega)
structure Net.Ok (x : Net) : Prop where
 agents : (x.agents.length ≤ 9223372036854775807 ∧ ∀ e ∈ x.agents, Agent.Ok e)
theorem Net.ok_of (x : Net) (h : oksC (Net.ds x)) : x.Ok := by
 rw [Net.ds_eq] at h
 simp only [oksC, D.ok, List.length_map] at h
 obtain ⟨h1, -⟩ := h
 exact ⟨⟨h1.1, fun e he => Agent.ok_of e (oksR_mem h1.2 he)⟩⟩
theorem Net.eq_iff (x y : Net) : x = y ↔ x.agents = y.agents := by
 cases x; cases y; simp only [Net.mk.injEq]
def Net.sz (x : Net) : Nat := szl Agent.sz x.agents + 0
theorem szNet_eq (x : Net) (h : x.Ok) (left : Nat) (h1 : left ≤ 1048576) : l_szNet x left = some (szr x.sz left) := by
 unfold l_szNet Net.sz
 exact sz_step (szAgentS_eq _ h.agents.1 h.agents.2 _ (by omega)) fun _ => sz_end
theorem szNetS_eq (l : List Net) (hl : l.length ≤ 9223372036854775807) (h : ∀ x ∈ l, x.Ok) (left : Nat) (h1 : left ≤ 1048576) : l_szNetS l left = some (szr (szl Net.sz l) left) := by
 unfold l_szNetS
 exact gSz (fun n p i => l_szNetS_l1 n l p i) l_szNet Net.sz l (fun n p i => by rw [l_szNetS_l1]) left h1 (fun x hx k hk => szNet_eq x (h x hx) k hk) hl
theorem toNet_eq (x : Net) (h : x.sz ≤ Big) : l_toNet x = some x := by
 unfold l_toNet
 rw [toAgentS_eq _ (by have := h; simp only [Net.sz] at this; omega), bind_some']
 first | done | rfl
theorem toNetS_eq (l : List Net) (hl : szl Net.sz l ≤ Big) : l_toNetS l = some l := by
 unfold l_toNetS
 exact gTo (fun n acc i => l_toNetS_l2 n l acc i) l_toNet _ l (fun n acc i => by rw [l_toNetS_l2]) (by have := szl_len Net.sz l; omega) (fun x hx => toNet_eq x (by have := szl_mem (s := Net.sz) hx; omega))
theorem eqNet_tells (x y : Net) (h : x.sz ≤ Big) : Tells (l_eqNet x y) (x = y) := by
 unfold l_eqNet
 exact Tells.iff (tells_bind_ifn (eqAgentS_tells _ _ (by have := h; simp only [Net.sz] at this; omega)) fun _ => tells_true) (by rw [Net.eq_iff]; simp only [and_true])
theorem eqNetS_tells (l m : List Net) (hl : szl Net.sz l ≤ Big) : Tells (l_eqNetS l m) (l = m) := by
 unfold l_eqNetS
 exact gEqS (fun n i => l_eqNetS_l1 n l m i) l_eqNet l m (fun n i => by rw [l_eqNetS_l1]) (by have := szl_len Net.sz l; omega) fun x hx y _ => eqNet_tells x y (by have := szl_mem (s := Net.sz) hx; omega)
structure Job.Ok (x : Job) : Prop where
 id : (Lit.int IntKind.i64 x.id).wf = true
 weight : (Lit.int IntKind.i64 x.weight).wf = true
 state : (Lit.int IntKind.i64 x.state).wf = true
 code : (Lit.int IntKind.i64 x.code).wf = true
 left : (Lit.int IntKind.i64 x.left).wf = true
 slices : (Lit.int IntKind.i64 x.slices).wf = true
 counts : (x.counts.length ≤ 9223372036854775807 ∧ ∀ e ∈ x.counts, (Lit.int IntKind.i64 e).wf = true)
 schedule : (x.schedule.length ≤ 9223372036854775807 ∧ ∀ e ∈ x.schedule, (Lit.int IntKind.i64 e).wf = true)
 book : (x.book.length ≤ 9223372036854775807 ∧ ∀ e ∈ x.book, Net.Ok e)
 net : Net.Ok x.net
theorem Job.ok_of (x : Job) (h : oksC (Job.ds x)) : x.Ok := by
 rw [Job.ds_eq] at h
 simp only [oksC, D.ok, List.length_map] at h
 obtain ⟨h1, h2, h3, h4, h5, h6, h7, h8, h9, h10, -⟩ := h
 exact ⟨h1, h2, h3, h4, h5, h6, ⟨h7.1, fun e he => by have := (oksR_mem h7.2 he); simpa only [i64D, oksC, D.ok, and_true] using this⟩, ⟨h8.1, fun e he => by have := (oksR_mem h8.2 he); simpa only [i64D, oksC, D.ok, and_true] using this⟩, ⟨h9.1, fun e he => Net.ok_of e (oksR_mem h9.2 he)⟩, Net.ok_of _ (by rw [Net.ds_eq]; simp only [oksC, D.ok, List.length_map]; exact ⟨h10, trivial⟩)⟩
theorem Job.eq_iff (x y : Job) : x = y ↔ x.id = y.id ∧ x.weight = y.weight ∧ x.state = y.state ∧ x.code = y.code ∧ x.left = y.left ∧ x.slices = y.slices ∧ x.counts = y.counts ∧ x.schedule = y.schedule ∧ x.book = y.book ∧ x.net = y.net := by
 cases x; cases y; simp only [Job.mk.injEq]
def Job.sz (x : Job) : Nat := x.counts.length + (x.schedule.length + (szl Net.sz x.book + (x.net.sz + 0)))
theorem szJob_eq (x : Job) (h : x.Ok) (left : Nat) (h1 : left ≤ 1048576) : l_szJob x left = some (szr x.sz left) := by
 unfold l_szJob Job.sz
 exact sz_step (szInt64S_eq _ _ (by omega) h.counts.1) fun _ => sz_step (szInt64S_eq _ _ (by omega) h.schedule.1) fun _ => sz_step (szNetS_eq _ h.book.1 h.book.2 _ (by omega)) fun _ => sz_step (szNet_eq _ h.net _ (by omega)) fun _ => sz_end
theorem szJobS_eq (l : List Job) (hl : l.length ≤ 9223372036854775807) (h : ∀ x ∈ l, x.Ok) (left : Nat) (h1 : left ≤ 1048576) : l_szJobS l left = some (szr (szl Job.sz l) left) := by
 unfold l_szJobS
 exact gSz (fun n p i => l_szJobS_l1 n l p i) l_szJob Job.sz l (fun n p i => by rw [l_szJobS_l1]) left h1 (fun x hx k hk => szJob_eq x (h x hx) k hk) hl
theorem toJob_eq (x : Job) (h : x.sz ≤ Big) : l_toJob x = some x := by
 unfold l_toJob
 rw [toInt64S_eq _ (by have := h; simp only [Job.sz] at this; omega), bind_some']
 rw [toInt64S_eq _ (by have := h; simp only [Job.sz] at this; omega), bind_some']
 rw [toNetS_eq _ (by have := h; simp only [Job.sz] at this; omega), bind_some']
 rw [toNet_eq _ (by have := h; simp only [Job.sz] at this; omega), bind_some']
 first | done | rfl
theorem toJobS_eq (l : List Job) (hl : szl Job.sz l ≤ Big) : l_toJobS l = some l := by
 unfold l_toJobS
 exact gTo (fun n acc i => l_toJobS_l2 n l acc i) l_toJob _ l (fun n acc i => by rw [l_toJobS_l2]) (by have := szl_len Job.sz l; omega) (fun x hx => toJob_eq x (by have := szl_mem (s := Job.sz) hx; omega))
theorem eqJob_tells (x y : Job) (h : x.sz ≤ Big) : Tells (l_eqJob x y) (x = y) := by
 unfold l_eqJob
 exact Tells.iff (tells_ifn dec_iff fun _ => tells_ifn dec_iff fun _ => tells_ifn dec_iff fun _ => tells_ifn dec_iff fun _ => tells_ifn dec_iff fun _ => tells_ifn dec_iff fun _ => tells_bind_ifn (eqInt64S_tells _ _ (by have := h; simp only [Job.sz] at this; omega)) fun _ => tells_bind_ifn (eqInt64S_tells _ _ (by have := h; simp only [Job.sz] at this; omega)) fun _ => tells_bind_ifn (eqNetS_tells _ _ (by have := h; simp only [Job.sz] at this; omega)) fun _ => tells_bind_ifn (eqNet_tells _ _ (by have := h; simp only [Job.sz] at this; omega)) fun _ => tells_true) (by rw [Job.eq_iff]; simp only [and_true])
theorem eqJobS_tells (l m : List Job) (hl : szl Job.sz l ≤ Big) : Tells (l_eqJobS l m) (l = m) := by
 unfold l_eqJobS
 exact gEqS (fun n i => l_eqJobS_l1 n l m i) l_eqJob l m (fun n i => by rw [l_eqJobS_l1]) (by have := szl_len Job.sz l; omega) fun x hx y _ => eqJob_tells x y (by have := szl_mem (s := Job.sz) hx; omega)
structure Queue.Ok (x : Queue) : Prop where
 quantum : (Lit.int IntKind.i64 x.quantum).wf = true
 nextId : (Lit.int IntKind.i64 x.nextId).wf = true
 turn : (Lit.int IntKind.i64 x.turn).wf = true
 jobs : (x.jobs.length ≤ 9223372036854775807 ∧ ∀ e ∈ x.jobs, Job.Ok e)
theorem Queue.ok_of (x : Queue) (h : oksC (Queue.ds x)) : x.Ok := by
 rw [Queue.ds_eq] at h
 simp only [oksC, D.ok, List.length_map] at h
 obtain ⟨h1, h2, h3, h4, -⟩ := h
 exact ⟨h1, h2, h3, ⟨h4.1, fun e he => Job.ok_of e (oksR_mem h4.2 he)⟩⟩
theorem Queue.eq_iff (x y : Queue) : x = y ↔ x.quantum = y.quantum ∧ x.nextId = y.nextId ∧ x.turn = y.turn ∧ x.jobs = y.jobs := by
 cases x; cases y; simp only [Queue.mk.injEq]
def Queue.sz (x : Queue) : Nat := szl Job.sz x.jobs + 0
theorem szQueue_eq (x : Queue) (h : x.Ok) (left : Nat) (h1 : left ≤ 1048576) : l_szQueue x left = some (szr x.sz left) := by
 unfold l_szQueue Queue.sz
 exact sz_step (szJobS_eq _ h.jobs.1 h.jobs.2 _ (by omega)) fun _ => sz_end
theorem toQueue_eq (x : Queue) (h : x.sz ≤ Big) : l_toQueue x = some x := by
 unfold l_toQueue
 rw [toJobS_eq _ (by have := h; simp only [Queue.sz] at this; omega), bind_some']
 first | done | rfl
theorem eqQueue_tells (x y : Queue) (h : x.sz ≤ Big) : Tells (l_eqQueue x y) (x = y) := by
 unfold l_eqQueue
 exact Tells.iff (tells_ifn dec_iff fun _ => tells_ifn dec_iff fun _ => tells_ifn dec_iff fun _ => tells_bind_ifn (eqJobS_tells _ _ (by have := h; simp only [Queue.sz] at this; omega)) fun _ => tells_true) (by rw [Queue.eq_iff]; simp only [and_true])
end Go.Proofs.YtckcfdggbbabfaaGreat.Ab
