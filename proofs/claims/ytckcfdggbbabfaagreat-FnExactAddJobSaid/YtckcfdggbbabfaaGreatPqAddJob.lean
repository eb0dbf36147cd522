/-
  The law on AddJob, from what both sides give. Printed by wip/ab/genplain.py. No program is in sight.
-/
import Derived.Test.YtckcfdggbbabfaaGreatPlG
import Derived.Test.YtckcfdggbbabfaaGreatPlM
import Derived.Test.YtckcfdggbbabfaaGreatAbZ
import Derived.Test.YtckcfdggbbabfaaGreatModB
import Derived.Test.YtckcfdggbbabfaaGreatPlMU
import Derived.Test.YtckcfdggbbabfaaGreatPlAddJob
namespace Go.Proofs.YtckcfdggbbabfaaGreat.Ab
set_option linter.unusedVariables false
set_option linter.unusedSimpArgs false
open Go.RowKit
theorem slen_of {α : Type} {f : α → List D} {l : List α} (h : oksC (slD f l)) : l.length ≤ 9223372036854775807 ∧ ∀ e ∈ l, oksC (f e) := by
 simp only [slD, oksC, D.ok, List.length_map, and_true] at h
 exact ⟨h.1, fun e he => oksR_mem h.2 he⟩
theorem law_len {n : Nat} {K : Option Bool} (h : n ≤ 1048576 → K = some true) : (if (decide ((1048576 : Int) < ((n : Nat) : Int))) = true then some true else K) = some true := by
 by_cases h1 : n ≤ 1048576
 ·rw [decide_eq_false (by omega), if_neg (by simp)]; exact h h1
 ·rw [decide_eq_true (by omega), if_pos rfl]
theorem AddJob_plain (a0 : Queue) (h0 : oksC (Queue.ds a0)) (a1 : List Net) (h1 : oksC ((slD Net.ds a1))) (a2 : Net) (h2 : oksC (Net.ds a2)) (a3 : List Int) (h3 : oksC ((slD i64D a3))) (a4 : Int) (w4 : (Lit.int IntKind.i64 a4).wf = true) (a5 : Int) (w5 : (Lit.int IntKind.i64 a5).wf = true) : l_FnExactAddJob a0 a1 a2 a3 a4 a5 = some true := by
 unfold l_FnExactAddJob
 refine law_len (n := a3.length) fun z3 => ?_
 refine law_sz (szQueue_eq a0 (Queue.ok_of a0 h0) (1048576) (by omega)) fun z0 => ?_
 refine law_sz (szNetS_eq a1 (slen_of h1).1 (fun e he => Net.ok_of e ((slen_of h1).2 e he)) (1048576 - a0.sz) (by omega)) fun z1 => ?_
 refine law_sz (szNet_eq a2 (Net.ok_of a2 h2) (1048576 - a0.sz - szl Net.sz a1) (by omega)) fun z2 => ?_
 have b0 : a0.sz ≤ Big := by unfold Big; omega
 have b1 : szl Net.sz a1 ≤ Big := by unfold Big; omega
 have b2 : a2.sz ≤ Big := by unfold Big; omega
 have b3 : a3.length ≤ Big := by unfold Big; omega
 obtain ⟨r, hs, hi, hr⟩ := AddJob_same a0 a1 a2 a3 a4 a5 (by omega) (by omega) (by omega) (by omega)
 have ft0 : l_toQueue a0 = some a0 := toQueue_eq a0 b0
 have fe0 : l_eqQueue a0 a0 = some true := (eqQueue_tells a0 a0 b0).true rfl
 have ft1 : l_toNetS a1 = some a1 := toNetS_eq a1 b1
 have fe1 : l_eqNetS a1 a1 = some true := (eqNetS_tells a1 a1 b1).true rfl
 have ft2 : l_toNet a2 = some a2 := toNet_eq a2 b2
 have fe2 : l_eqNet a2 a2 = some true := (eqNet_tells a2 a2 b2).true rfl
 have ft3 : l_toInt64S a3 = some a3 := toInt64S_eq a3 b3
 have fe3 : l_eqInt64S a3 a3 = some true := (eqInt64S_tells a3 a3 b3).true rfl
 have br0 := hr
 have ge0 : l_eqQueue r.1 r.1 = some true := (eqQueue_tells r.1 r.1 br0).true rfl
 have fm0 : l_markQueue a0 1 = some (((1 + a0.cntV : Nat) : Int), (Queue.mkV (1) a0).jobs) := markQueue_eq a0 (1) b0 (by have := Queue.cntV_le a0; have := b0; unfold Big KB at *; omega)
 have fm1 : l_markNetS a1 ((1 + a0.cntV : Nat) : Int) = some (((1 + a0.cntV + cnts Net.cnt a1 : Nat) : Int), mks Net.mk1 Net.cnt (1 + a0.cntV) a1) := markNetS_eq a1 (1 + a0.cntV) b1 (by have := Queue.cntV_le a0; have := b0; have := cnts_le (c := Net.cnt) (s := Net.sz) (l := a1) (fun x => Net.cnt_le x); have := b1; unfold Big KB at *; omega)
 have fm2 : l_markNet a2 ((1 + a0.cntV + cnts Net.cnt a1 : Nat) : Int) = some (((1 + a0.cntV + cnts Net.cnt a1 + a2.cntV : Nat) : Int), (Net.mkV (1 + a0.cntV + cnts Net.cnt a1) a2).agents) := markNet_eq a2 (1 + a0.cntV + cnts Net.cnt a1) b2 (by have := Queue.cntV_le a0; have := b0; have := cnts_le (c := Net.cnt) (s := Net.sz) (l := a1) (fun x => Net.cnt_le x); have := b1; have := Net.cntV_le a2; have := b2; unfold Big KB at *; omega)
 have fm3 : l_markInt64S a3 ((1 + a0.cntV + cnts Net.cnt a1 + a2.cntV : Nat) : Int) = some (((1 + a0.cntV + cnts Net.cnt a1 + a2.cntV + cnts one a3 : Nat) : Int), mks mkI one (1 + a0.cntV + cnts Net.cnt a1 + a2.cntV) a3) := markInt64S_eq a3 (1 + a0.cntV + cnts Net.cnt a1 + a2.cntV) b3 (by have := Queue.cntV_le a0; have := b0; have := cnts_le (c := Net.cnt) (s := Net.sz) (l := a1) (fun x => Net.cnt_le x); have := b1; have := Net.cntV_le a2; have := b2; have := cnts_flat (c := one) (b := 1) (l := a3) (fun x => one_le); have := b3; unfold Big KB at *; omega)
 have gm0 : l_markQueue r.1 1 = some (((1 + r.1.cntV : Nat) : Int), (Queue.mkV (1) r.1).jobs) := markQueue_eq r.1 (1) br0 (by have := Queue.cntV_le r.1; have := br0; unfold Big KB at *; omega)
 have gh0 : l_heldQueue ⟨r.1.quantum, r.1.nextId, r.1.turn, (Queue.mkV (1) r.1).jobs⟩ 1 = some (((1 + r.1.cntV : Nat) : Int)) := heldQueue_eq r.1 (1) br0 (by have := Queue.cntV_le r.1; have := br0; unfold Big KB at *; omega)
 simp only [bind_some', hs, hi, ft0, fe0, ft1, fe1, ft2, fe2, ft3, fe3, ge0, fm0, fm1, fm2, fm3, gm0, gh0, l_FnExactAddJob_j3, l_FnExactAddJob_j2, l_FnExactAddJob_j1, sameStr_self, beq_self_eq_true, nneg, eq_self, decide_true, decide_false, Bool.not_true, Bool.not_false, Bool.false_eq_true, reduceIte]
end Go.Proofs.YtckcfdggbbabfaaGreat.Ab
