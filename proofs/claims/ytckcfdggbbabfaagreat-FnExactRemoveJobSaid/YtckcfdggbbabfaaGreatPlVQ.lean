/-
  Sizes of what a queue holds. No program is in sight.
-/
import Derived.Test.YtckcfdggbbabfaaGreatPlValidQueue
import Derived.Test.YtckcfdggbbabfaaGreatPlTU
namespace Go.Proofs.YtckcfdggbbabfaaGreat.Ab
set_option linter.unusedVariables false
set_option linter.unusedSimpArgs false
open Go.RowKit
theorem szl_ports : ∀ l : List Agent, szl (fun a => a.ports.length) l ≤ szl Agent.sz l
 | [] => Nat.le_refl _
 | a :: l => by
  have := szl_ports l
  rw [szl, szl]
  have : a.ports.length ≤ a.sz := by unfold Agent.sz; omega
  omega
theorem Net.small_of (n : Net) (h : n.sz ≤ Big) : n.Small := by
 unfold Net.sz at h
 refine ⟨Nat.le_trans (szl_ports n.agents) (by omega), fun a ha => ?_⟩
 have h1 := szl_mem (s := Agent.sz) ha
 have : a.data.length ≤ a.sz := by unfold Agent.sz; omega
 omega
theorem Job.small_of (j : Job) (h : j.sz ≤ Big) : j.Small := by
 unfold Job.sz at h
 have h1 := szl_len Net.sz j.book
 exact ⟨by omega, by omega, by omega, fun n hn => n.small_of (by have := szl_mem (s := Net.sz) hn; omega), j.net.small_of (by omega)⟩
theorem Queue.small_of (q : Queue) (h : q.sz ≤ Big) : q.jobs.length ≤ Big ∧ ∀ j ∈ q.jobs, j.Small := by
 unfold Queue.sz at h
 exact ⟨Nat.le_trans (szl_len Job.sz q.jobs) (by omega), fun j hj => j.small_of (by have := szl_mem (s := Job.sz) hj; omega)⟩
end Go.Proofs.YtckcfdggbbabfaaGreat.Ab
