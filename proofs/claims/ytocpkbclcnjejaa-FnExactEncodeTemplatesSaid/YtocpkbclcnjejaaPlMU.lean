/-
  Marks and what is found of them: the helpers of this group. Printed by wip/ab/genhelp.py. No program is in sight.
-/
import Derived.Test.YtocpkbclcnjejaaPlM
import Derived.Test.YtocpkbclcnjejaaPlTU
namespace Go.Proofs.Ytocpkbclcnjejaa.Ab
set_option linter.unusedVariables false
set_option linter.unusedSimpArgs false
open Go.RowKit

theorem markInt64S_eq (l : List Int) (k : Nat) (h : l.length ≤ Big) (hk : k + cnts one l ≤ KB) : l_markInt64S l (k : Int) = some (((k + cnts one l : Nat) : Int), mks mkI one k l) := by
  unfold l_markInt64S
  refine gMark (fun n l k i => l_markInt64S_l1 n l k i) mkI one (fun _ => True) ?_ ?_ l k (fun _ _ => trivial) h hk
  · intro n pre post x k hx hk hp
    have e : k + one x = k + 1 := by rfl
    rw [e] at hk ⊢
    rw [l_markInt64S_l1, if_pos lt_mid]
    simp (disch := omega) only [at_mid, set_mid, bind_some', wk, wrap_len]
    rfl
  · intro n l k; rw [l_markInt64S_l1, if_neg (by rw [ge_len]; decide)]
def Port.cnt (x : Port) : Nat := 1 + 1
def Port.mk1 (k : Nat) (x : Port) : Port := ⟨mkI (k) x.agent, mkI (k + 1) x.slot⟩
def Port.cntV (x : Port) : Nat := 0
def Port.mkV (k : Nat) (x : Port) : Port := ⟨x.agent, x.slot⟩
theorem Port.cnt_le (x : Port) : x.cnt ≤ 2 := by unfold Port.cnt; omega
theorem markPortS_eq (l : List Port) (k : Nat) (h : l.length ≤ Big) (hk : k + cnts Port.cnt l ≤ KB) : l_markPortS l (k : Int) = some (((k + cnts Port.cnt l : Nat) : Int), mks Port.mk1 Port.cnt k l) := by
  unfold l_markPortS
  refine gMark (fun n l k i => l_markPortS_l1 n l k i) Port.mk1 Port.cnt (fun _ => True) ?_ ?_ l k (fun _ _ => trivial) h hk
  · intro n pre post x k hx hk hp
    have e : k + Port.cnt x = k + 1 + 1 := by unfold Port.cnt; omega
    rw [e] at hk ⊢
    rw [l_markPortS_l1, if_pos lt_mid]
    simp (disch := omega) only [at_mid, set_mid, bind_some', wk, wrap_len, markInt64S_eq]
    rfl
  · intro n l k; rw [l_markPortS_l1, if_neg (by rw [ge_len]; decide)]
def Agent.cnt (x : Agent) : Nat := 1 + 1 + 1 + cnts one x.data + cnts Port.cnt x.ports
def Agent.mk1 (k : Nat) (x : Agent) : Agent := ⟨mkI (k) x.kind, mkI (k + 1) x.level, mkI (k + 1 + 1) x.value, mks mkI one (k + 1 + 1 + 1) x.data, mks Port.mk1 Port.cnt (k + 1 + 1 + 1 + cnts one x.data) x.ports⟩
def Agent.cntV (x : Agent) : Nat := cnts one x.data + cnts Port.cnt x.ports
def Agent.mkV (k : Nat) (x : Agent) : Agent := ⟨x.kind, x.level, x.value, mks mkI one (k) x.data, mks Port.mk1 Port.cnt (k + cnts one x.data) x.ports⟩
theorem Agent.cnt_le (x : Agent) : x.cnt ≤ 3 + 3 * x.sz := by
  simp only [Agent.cnt, Agent.sz]
  have := cnts_flat (c := one) (b := 1) (l := x.data) (fun x => one_le)
  have := cnts_flat (c := Port.cnt) (b := 2) (l := x.ports) (fun x => Port.cnt_le x)
  omega
theorem Agent.cntV_le (x : Agent) : x.cntV ≤ 3 + 3 * x.sz := by
  simp only [Agent.cntV, Agent.sz]
  have := cnts_flat (c := one) (b := 1) (l := x.data) (fun x => one_le)
  have := cnts_flat (c := Port.cnt) (b := 2) (l := x.ports) (fun x => Port.cnt_le x)
  omega
theorem markAgentS_eq (l : List Agent) (k : Nat) (h : szl Agent.sz l ≤ Big) (hk : k + cnts Agent.cnt l ≤ KB) : l_markAgentS l (k : Int) = some (((k + cnts Agent.cnt l : Nat) : Int), mks Agent.mk1 Agent.cnt k l) := by
  unfold l_markAgentS
  refine gMark (fun n l k i => l_markAgentS_l1 n l k i) Agent.mk1 Agent.cnt (fun x => x.sz ≤ Big) ?_ ?_ l k (fun x hx => by have := szl_mem (s := Agent.sz) hx; omega) (by have := szl_len Agent.sz l; omega) hk
  · intro n pre post x k hx hk hp
    have e : k + Agent.cnt x = k + 1 + 1 + 1 + cnts one x.data + cnts Port.cnt x.ports := by unfold Agent.cnt; omega
    rw [e] at hk ⊢
    simp only [Agent.sz] at hx
    rw [l_markAgentS_l1, if_pos lt_mid]
    simp (disch := omega) only [at_mid, set_mid, bind_some', wk, wrap_len, markInt64S_eq, markPortS_eq]
    rfl
  · intro n l k; rw [l_markAgentS_l1, if_neg (by rw [ge_len]; decide)]
def Net.cnt (x : Net) : Nat := cnts Agent.cnt x.agents
def Net.mk1 (k : Nat) (x : Net) : Net := ⟨mks Agent.mk1 Agent.cnt (k) x.agents⟩
def Net.cntV (x : Net) : Nat := cnts Agent.cnt x.agents
def Net.mkV (k : Nat) (x : Net) : Net := ⟨mks Agent.mk1 Agent.cnt (k) x.agents⟩
theorem Net.cnt_le (x : Net) : x.cnt ≤ 3 + 3 * x.sz := by
  simp only [Net.cnt, Net.sz]
  have := cnts_le (c := Agent.cnt) (s := Agent.sz) (b := 3) (l := x.agents) (fun x => Agent.cnt_le x)
  omega
theorem Net.cntV_le (x : Net) : x.cntV ≤ 3 + 3 * x.sz := by
  simp only [Net.cntV, Net.sz]
  have := cnts_le (c := Agent.cnt) (s := Agent.sz) (b := 3) (l := x.agents) (fun x => Agent.cnt_le x)
  omega
theorem markNet_eq (x : Net) (k : Nat) (h : x.sz ≤ Big) (hk : k + x.cntV ≤ KB) : l_markNet x (k : Int) = some (((k + x.cntV : Nat) : Int), mks Agent.mk1 Agent.cnt (k) x.agents) := by
  have e : k + x.cntV = k + cnts Agent.cnt x.agents := by unfold Net.cntV; omega
  rw [e] at hk ⊢
  simp only [Net.sz] at h
  unfold l_markNet
  simp (disch := omega) only [bind_some', wk, markInt64S_eq, markPortS_eq, markAgentS_eq]
end Go.Proofs.Ytocpkbclcnjejaa.Ab
