/-
  Marks and what is found of them: the helpers of this group. Printed by wip/ab/genhelp.py. No program is in sight.
-/
import Derived.Test.YtckcfdggbbabfaaGreatPlM
import Derived.Test.YtckcfdggbbabfaaGreatPlTU
namespace Go.Proofs.YtckcfdggbbabfaaGreat.Ab
set_option linter.unusedVariables false
set_option linter.unusedSimpArgs false
open Go.RowKit
theorem markInt64S_eq (l : List Int) (k : Nat) (h : l.length ≤ Big) (hk : k + cnts one l ≤ KB) : l_markInt64S l (k : Int) = some (((k + cnts one l : Nat) : Int), mks mkI one k l) := by
 unfold l_markInt64S
 refine gMark (fun n l k i => l_markInt64S_l1 n l k i) mkI one (fun _ => True) ?_ ?_ l k (fun _ _ => trivial) h hk
 ·intro n pre post x k hx hk hp
  have e : k + one x = k + 1 := by rfl
  rw [e] at hk ⊢
  rw [l_markInt64S_l1, if_pos lt_mid]
  simp (disch := omega) only [at_mid, set_mid, bind_some', wk, wrap_len]
  rfl
 ·intro n l k; rw [l_markInt64S_l1, if_neg (by rw [ge_len]; decide)]
theorem heldInt64S_eq (l : List Int) (k : Nat) (h : l.length ≤ Big) (hk : k + cnts one l ≤ KB) : l_heldInt64S (mks mkI one k l) (k : Int) = some ((k + cnts one l : Nat) : Int) := by
 unfold l_heldInt64S
 refine gHeld (fun n l k i => l_heldInt64S_l1 n l k i) mkI one (fun _ => True) ?_ ?_ l k (fun _ _ => trivial) h hk
 ·intro n pre post x k hx hk hp
  have e : k + one x = k + 1 := by rfl
  rw [e] at hk ⊢
  rw [l_heldInt64S_l1, if_pos lt_mid]
  simp (disch := omega) only [mkI, at_mid, bind_some', wk, wrap_len, nneg, eq_self, decide_true, Bool.not_true, Bool.false_eq_true, reduceIte]
 ·intro n l k; rw [l_heldInt64S_l1, if_neg (by rw [ge_len]; decide)]
def Port.cnt (x : Port) : Nat := 1 + 1
def Port.mk1 (k : Nat) (x : Port) : Port := ⟨mkI (k) x.agent, mkI (k + 1) x.slot⟩
def Port.cntV (x : Port) : Nat := 0
def Port.mkV (k : Nat) (x : Port) : Port := ⟨x.agent, x.slot⟩
theorem Port.cnt_le (x : Port) : x.cnt ≤ 2 := by unfold Port.cnt; omega
theorem markPortS_eq (l : List Port) (k : Nat) (h : l.length ≤ Big) (hk : k + cnts Port.cnt l ≤ KB) : l_markPortS l (k : Int) = some (((k + cnts Port.cnt l : Nat) : Int), mks Port.mk1 Port.cnt k l) := by
 unfold l_markPortS
 refine gMark (fun n l k i => l_markPortS_l1 n l k i) Port.mk1 Port.cnt (fun _ => True) ?_ ?_ l k (fun _ _ => trivial) h hk
 ·intro n pre post x k hx hk hp
  have e : k + Port.cnt x = k + 1 + 1 := by unfold Port.cnt; omega
  rw [e] at hk ⊢
  rw [l_markPortS_l1, if_pos lt_mid]
  simp (disch := omega) only [at_mid, set_mid, bind_some', wk, wrap_len, markInt64S_eq]
  rfl
 ·intro n l k; rw [l_markPortS_l1, if_neg (by rw [ge_len]; decide)]
def Agent.cnt (x : Agent) : Nat := 1 + 1 + 1 + cnts one x.data + cnts Port.cnt x.ports
def Agent.mk1 (k : Nat) (x : Agent) : Agent := ⟨mkI (k) x.kind, mkI (k + 1) x.level, mkI (k + 1 + 1) x.value, mks mkI one (k + 1 + 1 + 1) x.data, mks Port.mk1 Port.cnt (k + 1 + 1 + 1 + cnts one x.data) x.ports⟩
def Agent.cntV (x : Agent) : Nat := cnts one x.data + cnts Port.cnt x.ports
def Agent.mkV (k : Nat) (x : Agent) : Agent := ⟨x.kind, x.level, x.value, mks mkI one (k) x.data, mks Port.mk1 Port.cnt (k + cnts one x.data) x.ports⟩
theorem Agent.cnt_le (x : Agent) : x.cnt ≤ 3 + 3 * x.sz := by
 simp only [Agent.cnt, Agent.sz]
 have := cnts_flat (c := one) (b := 1) (l := x.data) (fun x => one_le)
 have := cnts_flat (c := Port.cnt) (b := 2) (l := x.ports) (fun x => Port.cnt_le x)
 omega
theorem Agent.cntV_le (x : Agent) : x.cntV ≤ 3 + 3 * x.sz := by
 simp only [Agent.cntV, Agent.sz]
 have := cnts_flat (c := one) (b := 1) (l := x.data) (fun x => one_le)
 have := cnts_flat (c := Port.cnt) (b := 2) (l := x.ports) (fun x => Port.cnt_le x)
 omega
theorem markAgentS_eq (l : List Agent) (k : Nat) (h : szl Agent.sz l ≤ Big) (hk : k + cnts Agent.cnt l ≤ KB) : l_markAgentS l (k : Int) = some (((k + cnts Agent.cnt l : Nat) : Int), mks Agent.mk1 Agent.cnt k l) := by
 unfold l_markAgentS
 refine gMark (fun n l k i => l_markAgentS_l1 n l k i) Agent.mk1 Agent.cnt (fun x => x.sz ≤ Big) ?_ ?_ l k (fun x hx => by have := szl_mem (s := Agent.sz) hx; omega) (by have := szl_len Agent.sz l; omega) hk
 ·intro n pre post x k hx hk hp
  have e : k + Agent.cnt x = k + 1 + 1 + 1 + cnts one x.data + cnts Port.cnt x.ports := by unfold Agent.cnt; omega
  rw [e] at hk ⊢
  simp only [Agent.sz] at hx
  rw [l_markAgentS_l1, if_pos lt_mid]
  simp (disch := omega) only [at_mid, set_mid, bind_some', wk, wrap_len, markInt64S_eq, markPortS_eq]
  rfl
 ·intro n l k; rw [l_markAgentS_l1, if_neg (by rw [ge_len]; decide)]
def Net.cnt (x : Net) : Nat := cnts Agent.cnt x.agents
def Net.mk1 (k : Nat) (x : Net) : Net := ⟨mks Agent.mk1 Agent.cnt (k) x.agents⟩
def Net.cntV (x : Net) : Nat := cnts Agent.cnt x.agents
def Net.mkV (k : Nat) (x : Net) : Net := ⟨mks Agent.mk1 Agent.cnt (k) x.agents⟩
theorem Net.cnt_le (x : Net) : x.cnt ≤ 3 + 3 * x.sz := by
 simp only [Net.cnt, Net.sz]
 have := cnts_le (c := Agent.cnt) (s := Agent.sz) (b := 3) (l := x.agents) (fun x => Agent.cnt_le x)
 omega
theorem Net.cntV_le (x : Net) : x.cntV ≤ 3 + 3 * x.sz := by
 simp only [Net.cntV, Net.sz]
 have := cnts_le (c := Agent.cnt) (s := Agent.sz) (b := 3) (l := x.agents) (fun x => Agent.cnt_le x)
 omega
theorem markNet_eq (x : Net) (k : Nat) (h : x.sz ≤ Big) (hk : k + x.cntV ≤ KB) : l_markNet x (k : Int) = some (((k + x.cntV : Nat) : Int), mks Agent.mk1 Agent.cnt (k) x.agents) := by
 have e : k + x.cntV = k + cnts Agent.cnt x.agents := by unfold Net.cntV; omega
 rw [e] at hk ⊢
 simp only [Net.sz] at h
 unfold l_markNet
 simp (disch := omega) only [bind_some', wk, markInt64S_eq, markPortS_eq, markAgentS_eq]
theorem heldPortS_eq (l : List Port) (k : Nat) (h : l.length ≤ Big) (hk : k + cnts Port.cnt l ≤ KB) : l_heldPortS (mks Port.mk1 Port.cnt k l) (k : Int) = some ((k + cnts Port.cnt l : Nat) : Int) := by
 unfold l_heldPortS
 refine gHeld (fun n l k i => l_heldPortS_l1 n l k i) Port.mk1 Port.cnt (fun _ => True) ?_ ?_ l k (fun _ _ => trivial) h hk
 ·intro n pre post x k hx hk hp
  have e : k + Port.cnt x = k + 1 + 1 := by unfold Port.cnt; omega
  rw [e] at hk ⊢
  rw [l_heldPortS_l1, if_pos lt_mid]
  simp (disch := omega) only [Port.mk1, mkI, at_mid, bind_some', wk, wrap_len, nneg, eq_self, decide_true, Bool.not_true, Bool.false_eq_true, reduceIte, heldInt64S_eq]
 ·intro n l k; rw [l_heldPortS_l1, if_neg (by rw [ge_len]; decide)]
theorem heldAgentS_eq (l : List Agent) (k : Nat) (h : szl Agent.sz l ≤ Big) (hk : k + cnts Agent.cnt l ≤ KB) : l_heldAgentS (mks Agent.mk1 Agent.cnt k l) (k : Int) = some ((k + cnts Agent.cnt l : Nat) : Int) := by
 unfold l_heldAgentS
 refine gHeld (fun n l k i => l_heldAgentS_l1 n l k i) Agent.mk1 Agent.cnt (fun x => x.sz ≤ Big) ?_ ?_ l k (fun x hx => by have := szl_mem (s := Agent.sz) hx; omega) (by have := szl_len Agent.sz l; omega) hk
 ·intro n pre post x k hx hk hp
  have e : k + Agent.cnt x = k + 1 + 1 + 1 + cnts one x.data + cnts Port.cnt x.ports := by unfold Agent.cnt; omega
  rw [e] at hk ⊢
  simp only [Agent.sz] at hx
  rw [l_heldAgentS_l1, if_pos lt_mid]
  simp (disch := omega) only [Agent.mk1, mkI, at_mid, bind_some', wk, wrap_len, nneg, eq_self, decide_true, Bool.not_true, Bool.false_eq_true, reduceIte, heldInt64S_eq, heldPortS_eq]
 ·intro n l k; rw [l_heldAgentS_l1, if_neg (by rw [ge_len]; decide)]
theorem heldNet_eq (x : Net) (k : Nat) (h : x.sz ≤ Big) (hk : k + x.cntV ≤ KB) : l_heldNet (Net.mkV k x) (k : Int) = some ((k + x.cntV : Nat) : Int) := by
 have e : k + x.cntV = k + cnts Agent.cnt x.agents := by unfold Net.cntV; omega
 rw [e] at hk ⊢
 simp only [Net.sz] at h
 unfold l_heldNet
 simp (disch := omega) only [Net.mkV, bind_some', wk, nneg, eq_self, decide_true, Bool.not_true, Bool.false_eq_true, reduceIte, heldInt64S_eq, heldPortS_eq, heldAgentS_eq]
theorem markNetS_eq (l : List Net) (k : Nat) (h : szl Net.sz l ≤ Big) (hk : k + cnts Net.cnt l ≤ KB) : l_markNetS l (k : Int) = some (((k + cnts Net.cnt l : Nat) : Int), mks Net.mk1 Net.cnt k l) := by
 unfold l_markNetS
 refine gMark (fun n l k i => l_markNetS_l1 n l k i) Net.mk1 Net.cnt (fun x => x.sz ≤ Big) ?_ ?_ l k (fun x hx => by have := szl_mem (s := Net.sz) hx; omega) (by have := szl_len Net.sz l; omega) hk
 ·intro n pre post x k hx hk hp
  have e : k + Net.cnt x = k + cnts Agent.cnt x.agents := by unfold Net.cnt; omega
  rw [e] at hk ⊢
  simp only [Net.sz] at hx
  rw [l_markNetS_l1, if_pos lt_mid]
  simp (disch := omega) only [at_mid, set_mid, bind_some', wk, wrap_len, markInt64S_eq, markPortS_eq, markAgentS_eq]
  rfl
 ·intro n l k; rw [l_markNetS_l1, if_neg (by rw [ge_len]; decide)]
theorem heldNetS_eq (l : List Net) (k : Nat) (h : szl Net.sz l ≤ Big) (hk : k + cnts Net.cnt l ≤ KB) : l_heldNetS (mks Net.mk1 Net.cnt k l) (k : Int) = some ((k + cnts Net.cnt l : Nat) : Int) := by
 unfold l_heldNetS
 refine gHeld (fun n l k i => l_heldNetS_l1 n l k i) Net.mk1 Net.cnt (fun x => x.sz ≤ Big) ?_ ?_ l k (fun x hx => by have := szl_mem (s := Net.sz) hx; omega) (by have := szl_len Net.sz l; omega) hk
 ·intro n pre post x k hx hk hp
  have e : k + Net.cnt x = k + cnts Agent.cnt x.agents := by unfold Net.cnt; omega
  rw [e] at hk ⊢
  simp only [Net.sz] at hx
  rw [l_heldNetS_l1, if_pos lt_mid]
  simp (disch := omega) only [Net.mk1, mkI, at_mid, bind_some', wk, wrap_len, nneg, eq_self, decide_true, Bool.not_true, Bool.false_eq_true, reduceIte, heldInt64S_eq, heldPortS_eq, heldAgentS_eq]
 ·intro n l k; rw [l_heldNetS_l1, if_neg (by rw [ge_len]; decide)]
def Job.cnt (x : Job) : Nat := 1 + 1 + 1 + 1 + 1 + 1 + cnts one x.counts + cnts one x.schedule + cnts Net.cnt x.book + cnts Agent.cnt x.net.agents
def Job.mk1 (k : Nat) (x : Job) : Job := ⟨mkI (k) x.id, mkI (k + 1) x.weight, mkI (k + 1 + 1) x.state, mkI (k + 1 + 1 + 1) x.code, mkI (k + 1 + 1 + 1 + 1) x.left, mkI (k + 1 + 1 + 1 + 1 + 1) x.slices, mks mkI one (k + 1 + 1 + 1 + 1 + 1 + 1) x.counts, mks mkI one (k + 1 + 1 + 1 + 1 + 1 + 1 + cnts one x.counts) x.schedule, mks Net.mk1 Net.cnt (k + 1 + 1 + 1 + 1 + 1 + 1 + cnts one x.counts + cnts one x.schedule) x.book, ⟨mks Agent.mk1 Agent.cnt (k + 1 + 1 + 1 + 1 + 1 + 1 + cnts one x.counts + cnts one x.schedule + cnts Net.cnt x.book) x.net.agents⟩⟩
def Job.cntV (x : Job) : Nat := cnts one x.counts + cnts one x.schedule + cnts Net.cnt x.book + cnts Agent.cnt x.net.agents
def Job.mkV (k : Nat) (x : Job) : Job := ⟨x.id, x.weight, x.state, x.code, x.left, x.slices, mks mkI one (k) x.counts, mks mkI one (k + cnts one x.counts) x.schedule, mks Net.mk1 Net.cnt (k + cnts one x.counts + cnts one x.schedule) x.book, ⟨mks Agent.mk1 Agent.cnt (k + cnts one x.counts + cnts one x.schedule + cnts Net.cnt x.book) x.net.agents⟩⟩
theorem Job.cnt_le (x : Job) : x.cnt ≤ 6 + 6 * x.sz := by
 simp only [Job.cnt, Job.sz, Net.sz]
 have := cnts_flat (c := one) (b := 1) (l := x.counts) (fun x => one_le)
 have := cnts_flat (c := one) (b := 1) (l := x.schedule) (fun x => one_le)
 have := cnts_le (c := Net.cnt) (s := Net.sz) (b := 3) (l := x.book) (fun x => Net.cnt_le x)
 have := cnts_le (c := Agent.cnt) (s := Agent.sz) (b := 3) (l := x.net.agents) (fun x => Agent.cnt_le x)
 omega
theorem Job.cntV_le (x : Job) : x.cntV ≤ 6 + 6 * x.sz := by
 simp only [Job.cntV, Job.sz, Net.sz]
 have := cnts_flat (c := one) (b := 1) (l := x.counts) (fun x => one_le)
 have := cnts_flat (c := one) (b := 1) (l := x.schedule) (fun x => one_le)
 have := cnts_le (c := Net.cnt) (s := Net.sz) (b := 3) (l := x.book) (fun x => Net.cnt_le x)
 have := cnts_le (c := Agent.cnt) (s := Agent.sz) (b := 3) (l := x.net.agents) (fun x => Agent.cnt_le x)
 omega
theorem markJobS_eq (l : List Job) (k : Nat) (h : szl Job.sz l ≤ Big) (hk : k + cnts Job.cnt l ≤ KB) : l_markJobS l (k : Int) = some (((k + cnts Job.cnt l : Nat) : Int), mks Job.mk1 Job.cnt k l) := by
 unfold l_markJobS
 refine gMark (fun n l k i => l_markJobS_l1 n l k i) Job.mk1 Job.cnt (fun x => x.sz ≤ Big) ?_ ?_ l k (fun x hx => by have := szl_mem (s := Job.sz) hx; omega) (by have := szl_len Job.sz l; omega) hk
 ·intro n pre post x k hx hk hp
  have e : k + Job.cnt x = k + 1 + 1 + 1 + 1 + 1 + 1 + cnts one x.counts + cnts one x.schedule + cnts Net.cnt x.book + cnts Agent.cnt x.net.agents := by unfold Job.cnt; omega
  rw [e] at hk ⊢
  simp only [Job.sz, Net.sz] at hx
  rw [l_markJobS_l1, if_pos lt_mid]
  simp (disch := omega) only [at_mid, set_mid, bind_some', wk, wrap_len, markInt64S_eq, markPortS_eq, markAgentS_eq, markNetS_eq]
  rfl
 ·intro n l k; rw [l_markJobS_l1, if_neg (by rw [ge_len]; decide)]
def Queue.cnt (x : Queue) : Nat := 1 + 1 + 1 + cnts Job.cnt x.jobs
def Queue.mk1 (k : Nat) (x : Queue) : Queue := ⟨mkI (k) x.quantum, mkI (k + 1) x.nextId, mkI (k + 1 + 1) x.turn, mks Job.mk1 Job.cnt (k + 1 + 1 + 1) x.jobs⟩
def Queue.cntV (x : Queue) : Nat := cnts Job.cnt x.jobs
def Queue.mkV (k : Nat) (x : Queue) : Queue := ⟨x.quantum, x.nextId, x.turn, mks Job.mk1 Job.cnt (k) x.jobs⟩
theorem Queue.cnt_le (x : Queue) : x.cnt ≤ 6 + 6 * x.sz := by
 simp only [Queue.cnt, Queue.sz]
 have := cnts_le (c := Job.cnt) (s := Job.sz) (b := 6) (l := x.jobs) (fun x => Job.cnt_le x)
 omega
theorem Queue.cntV_le (x : Queue) : x.cntV ≤ 6 + 6 * x.sz := by
 simp only [Queue.cntV, Queue.sz]
 have := cnts_le (c := Job.cnt) (s := Job.sz) (b := 6) (l := x.jobs) (fun x => Job.cnt_le x)
 omega
theorem markQueue_eq (x : Queue) (k : Nat) (h : x.sz ≤ Big) (hk : k + x.cntV ≤ KB) : l_markQueue x (k : Int) = some (((k + x.cntV : Nat) : Int), mks Job.mk1 Job.cnt (k) x.jobs) := by
 have e : k + x.cntV = k + cnts Job.cnt x.jobs := by unfold Queue.cntV; omega
 rw [e] at hk ⊢
 simp only [Queue.sz] at h
 unfold l_markQueue
 simp (disch := omega) only [bind_some', wk, markInt64S_eq, markPortS_eq, markAgentS_eq, markNetS_eq, markJobS_eq]
theorem heldJobS_eq (l : List Job) (k : Nat) (h : szl Job.sz l ≤ Big) (hk : k + cnts Job.cnt l ≤ KB) : l_heldJobS (mks Job.mk1 Job.cnt k l) (k : Int) = some ((k + cnts Job.cnt l : Nat) : Int) := by
 unfold l_heldJobS
 refine gHeld (fun n l k i => l_heldJobS_l1 n l k i) Job.mk1 Job.cnt (fun x => x.sz ≤ Big) ?_ ?_ l k (fun x hx => by have := szl_mem (s := Job.sz) hx; omega) (by have := szl_len Job.sz l; omega) hk
 ·intro n pre post x k hx hk hp
  have e : k + Job.cnt x = k + 1 + 1 + 1 + 1 + 1 + 1 + cnts one x.counts + cnts one x.schedule + cnts Net.cnt x.book + cnts Agent.cnt x.net.agents := by unfold Job.cnt; omega
  rw [e] at hk ⊢
  simp only [Job.sz, Net.sz] at hx
  rw [l_heldJobS_l1, if_pos lt_mid]
  simp (disch := omega) only [Job.mk1, mkI, at_mid, bind_some', wk, wrap_len, nneg, eq_self, decide_true, Bool.not_true, Bool.false_eq_true, reduceIte, heldInt64S_eq, heldPortS_eq, heldAgentS_eq, heldNetS_eq]
 ·intro n l k; rw [l_heldJobS_l1, if_neg (by rw [ge_len]; decide)]
theorem heldQueue_eq (x : Queue) (k : Nat) (h : x.sz ≤ Big) (hk : k + x.cntV ≤ KB) : l_heldQueue (Queue.mkV k x) (k : Int) = some ((k + x.cntV : Nat) : Int) := by
 have e : k + x.cntV = k + cnts Job.cnt x.jobs := by unfold Queue.cntV; omega
 rw [e] at hk ⊢
 simp only [Queue.sz] at h
 unfold l_heldQueue
 simp (disch := omega) only [Queue.mkV, bind_some', wk, nneg, eq_self, decide_true, Bool.not_true, Bool.false_eq_true, reduceIte, heldInt64S_eq, heldPortS_eq, heldAgentS_eq, heldNetS_eq, heldJobS_eq]
end Go.Proofs.YtckcfdggbbabfaaGreat.Ab
