/-
  Queues of jobs compared: the law on SameQueue. No program is in sight.
-/
import Derived.Test.YtfbnlkaggggmiaaPlTQ
namespace Go.Proofs.Ytfbnlkaggggmiaa.Ab
set_option linter.unusedVariables false
set_option linter.unusedSimpArgs false
open Go.RowKit

theorem l00Same_tells (l m : List Int) (hl : l.length ≤ Big) : Tells (s_l00Same l m) (l = m) := by
  unfold s_l00Same
  exact gEqS (fun n i => s_l00Same_l1 n l m i) (fun x y => some (decide (x = y))) l m (fun n i => by rw [s_l00Same_l1]; rfl) hl fun x _ y _ => .mk dec_iff
theorem equalInt_tells (l m : List Int) (hl : l.length ≤ Big) : Tells (g_Equal_sint64 l m) (l = m) := by
  unfold g_Equal_sint64
  exact gEqS (fun n i => g_Equal_sint64_l1 n l m i) (fun x y => some (decide (x = y))) l m (fun n i => by rw [g_Equal_sint64_l1]; rfl) hl fun x _ y _ => .mk dec_iff
theorem port_iff {x y : Port} : (decide (x.agent = y.agent) && decide (x.slot = y.slot)) = true ↔ x = y := by
  rw [Port.eq_iff]; simp
theorem equalPort_tells (l m : List Port) (hl : l.length ≤ Big) : Tells (g_Equal_simpl_Port l m) (l = m) := by
  unfold g_Equal_simpl_Port
  exact gEqS (fun n i => g_Equal_simpl_Port_l1 n l m i) (fun x y => some (decide (x.agent = y.agent) && decide (x.slot = y.slot))) l m (fun n i => by rw [g_Equal_simpl_Port_l1]; rfl) hl fun x _ y _ => .mk port_iff
/-! ### Agents and nets -/
theorem sameAgent_tells (x y : Agent) (h : x.sz ≤ Big) : Tells (i_sameAgent x y) (x = y) := by
  simp only [Agent.sz] at h
  unfold i_sameAgent
  exact (tells_if dec_iff fun _ => tells_if dec_iff fun _ => tells_if dec_iff fun _ => tells_bind_if (equalInt_tells _ _ (by omega)) fun _ => tells_bind_some (equalPort_tells _ _ (by omega))).iff (by rw [Agent.eq_iff])
theorem l11SameAgent_tells (x y : Agent) (h : x.sz ≤ Big) : Tells (s_l11SameAgent x y) (x = y) := by
  simp only [Agent.sz] at h
  unfold s_l11SameAgent s_l11SameAgent_j1
  simp only [eq_self, reduceIte]
  refine (tells_ifn dec_iff fun _ => tells_ifn dec_iff fun _ => tells_ifn dec_iff fun _ => tells_bind_ifn (l00Same_tells _ _ (by omega)) fun _ => ?_).iff (by rw [Agent.eq_iff])
  exact gEqS (fun n i => s_l11SameAgent_l2 n x y i) (fun x y => some (decide (x.agent = y.agent) && decide (x.slot = y.slot))) x.ports y.ports (fun n i => by rw [s_l11SameAgent_l2]; rfl) (by omega) fun x _ y _ => .mk port_iff
theorem SameNet_tells (x y : Net) (h : x.sz ≤ Big) : Tells (i_SameNet x y) (x = y) := by
  simp only [Net.sz] at h
  have hl := szl_len Agent.sz x.agents
  unfold i_SameNet g_EqualFunc_simpl_Agent
  exact (tells_bind_some (gEqS (fun n i => g_EqualFunc_simpl_Agent_l1 n x.agents y.agents i _) i_sameAgent _ _ (fun n i => by rw [g_EqualFunc_simpl_Agent_l1]) (by omega) fun a ha b _ => sameAgent_tells a b (by have := szl_mem (s := Agent.sz) ha; omega))).iff (by rw [Net.eq_iff])
theorem l11Same_tells (x y : Net) (h : x.sz ≤ Big) : Tells (s_l11Same x y) (x = y) := by
  simp only [Net.sz] at h
  have hl := szl_len Agent.sz x.agents
  unfold s_l11Same
  exact (gEqS (fun n i => s_l11Same_l1 n x y i) s_l11SameAgent _ _ (fun n i => by rw [s_l11Same_l1]) (by omega) fun a ha b _ => l11SameAgent_tells a b (by have := szl_mem (s := Agent.sz) ha; omega)).iff (by rw [Net.eq_iff])
theorem equalNet_tells (l m : List Net) (h : szl Net.sz l ≤ Big) : Tells (g_EqualFunc_simpl_Net l m (fun y0 y1 => i_SameNet y0 y1)) (l = m) := by
  have hl := szl_len Net.sz l
  unfold g_EqualFunc_simpl_Net
  exact gEqS (fun n i => g_EqualFunc_simpl_Net_l1 n l m i _) i_SameNet l m (fun n i => by rw [g_EqualFunc_simpl_Net_l1]) (by omega) fun a ha b _ => SameNet_tells a b (by have := szl_mem (s := Net.sz) ha; omega)
theorem l34SameNets_tells (l m : List Net) (h : szl Net.sz l ≤ Big) : Tells (s_l34SameNets l m) (l = m) := by
  have hl := szl_len Net.sz l
  unfold s_l34SameNets
  exact gEqS (fun n i => s_l34SameNets_l1 n l m i) s_l11Same l m (fun n i => by rw [s_l34SameNets_l1]) (by omega) fun a ha b _ => l11Same_tells a b (by have := szl_mem (s := Net.sz) ha; omega)
/-! ### Jobs and queues -/
theorem sameJob_tells (x y : Job) (h : x.sz ≤ Big) : Tells (i_sameJob x y) (x = y) := by
  simp only [Job.sz] at h
  unfold i_sameJob
  exact (tells_if dec_iff fun _ => tells_if dec_iff fun _ => tells_if dec_iff fun _ => tells_if dec_iff fun _ => tells_if dec_iff fun _ => tells_if dec_iff fun _ =>
    tells_bind_if (equalInt_tells _ _ (by omega)) fun _ => tells_bind_if (equalInt_tells _ _ (by omega)) fun _ => tells_bind_if (equalNet_tells _ _ (by omega)) fun _ => tells_bind_some (SameNet_tells _ _ (by omega))).iff (by rw [Job.eq_iff])
theorem l34SameJob_tells (x y : Job) (h : x.sz ≤ Big) : Tells (s_l34SameJob x y) (x = y) := by
  simp only [Job.sz] at h
  unfold s_l34SameJob
  exact (tells_if dec_iff fun _ => tells_if dec_iff fun _ => tells_if dec_iff fun _ => tells_if dec_iff fun _ => tells_if dec_iff fun _ => tells_if dec_iff fun _ =>
    tells_bind_if (l00Same_tells _ _ (by omega)) fun _ => tells_bind_if (l00Same_tells _ _ (by omega)) fun _ => tells_bind_if (l34SameNets_tells _ _ (by omega)) fun _ => tells_bind_some (l11Same_tells _ _ (by omega))).iff (by rw [Job.eq_iff])
theorem iSameQueue_tells (x y : Queue) (h : x.sz ≤ Big) : Tells (i_SameQueue x y) (x = y) := by
  simp only [Queue.sz] at h
  have hl := szl_len Job.sz x.jobs
  unfold i_SameQueue g_EqualFunc_simpl_Job
  exact (tells_if dec_iff fun _ => tells_if dec_iff fun _ => tells_if dec_iff fun _ => tells_bind_some (gEqS (fun n i => g_EqualFunc_simpl_Job_l1 n x.jobs y.jobs i _) i_sameJob _ _ (fun n i => by rw [g_EqualFunc_simpl_Job_l1]) (by omega) fun a ha b _ => sameJob_tells a b (by have := szl_mem (s := Job.sz) ha; omega))).iff (by rw [Queue.eq_iff])
theorem sSameQueue_tells (x y : Queue) (h : x.sz ≤ Big) : Tells (s_SameQueue x y) (x = y) := by
  simp only [Queue.sz] at h
  have hl := szl_len Job.sz x.jobs
  unfold s_SameQueue s_SameQueue_j1
  simp only [eq_self, reduceIte]
  exact (tells_ifn dec_iff fun _ => tells_ifn dec_iff fun _ => tells_ifn dec_iff fun _ => gEqS (fun n i => s_SameQueue_l3 n x y i) s_l34SameJob _ _ (fun n i => by rw [s_SameQueue_l3]) (by omega) fun a ha b _ => l34SameJob_tells a b (by have := szl_mem (s := Job.sz) ha; omega)).iff (by rw [Queue.eq_iff])
theorem SameQueue_plain (x : Queue) (hx : oksC (Queue.ds x)) (y : Queue) (hy : oksC (Queue.ds y)) : l_FnExactSameQueue x y = some true := by
  unfold l_FnExactSameQueue
  have e1 := szQueue_eq x (x.ok_of hx) 1048576 (by omega)
  rw [show ((1048576 : Nat) : Int) = 1048576 from rfl] at e1
  rw [e1, bind_some', szr_neg]
  by_cases h1 : 1048576 < x.sz
  · rw [if_pos (by simpa using h1)]
  rw [if_neg (by simpa using h1), szr_le (by omega), szQueue_eq y (y.ok_of hy) _ (by omega), bind_some', szr_neg]
  by_cases h2 : 1048576 - x.sz < y.sz
  · rw [if_pos (by simpa using h2)]
  have hxB : x.sz ≤ Big := by unfold Big; omega
  have hyB : y.sz ≤ Big := by unfold Big; omega
  rw [if_neg (by simpa using h2), toQueue_eq x hxB, bind_some', toQueue_eq y hyB, bind_some']
  obtain ⟨b, hb, hbi⟩ := sSameQueue_tells x y hxB
  rw [hb, bind_some', bind_some', bind_some', (iSameQueue_tells x y hxB).eq (sSameQueue_tells x y hxB), hb, bind_some', if_neg (by simp), bind_some', (eqQueue_tells x x hxB).true rfl, bind_some', if_neg (by simp), bind_some', (eqQueue_tells y y hyB).true rfl, bind_some']
  rfl
end Go.Proofs.Ytfbnlkaggggmiaa.Ab
