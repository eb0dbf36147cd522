/-
  The functions do what their models say. Printed by wip/ab/gen.py.
-/
import Derived.Test.YtfbnlkaggggmiaaModQ
import Derived.Test.YtfbnlkaggggmiaaTi2
import Derived.Test.YtfbnlkaggggmiaaWlk
namespace Go.Proofs.Ytfbnlkaggggmiaa.Ab
set_option linter.unusedVariables false
set_option linter.unusedSimpArgs false
set_option maxRecDepth 20000
set_option maxHeartbeats 4000000
open Go.RowKit

theorem l_eqPort_ok (a0 : Port) (a1 : Port) (r : Bool) (h : l_eqPort a0 a1 = some r) : AC Try.prog 266 [.agg (Port.avs a0), .agg (Port.avs a1)] (.bool r) := by
  unfold l_eqPort at h
  refine ac_fn mixed Try.func266 rfl rfl rfl (by kernel_rfl) (by kernel_rfl) ?_
  simp only [go_sem, Nat.reduceEqDiff, reduceIte, Nat.reduceAdd, Nat.reduceMul, Nat.reduceLeDiff, Nat.reduceLT]
  refine cond_i (fun hb1 => ?_) (fun hb1 => ?_)
  · replace h := ifT (c := (!decide (a0.agent = a1.agent))) hb1 h
    simp only [go_sem, Nat.reduceEqDiff, reduceIte, Nat.reduceAdd, Nat.reduceMul, Nat.reduceLeDiff, Nat.reduceLT]
    obtain rfl := Option.some.inj h
    simp only [go_sem, Nat.reduceEqDiff, reduceIte, Nat.reduceAdd, Nat.reduceMul, Nat.reduceLeDiff, Nat.reduceLT]
  · replace h := ifF (c := (!decide (a0.agent = a1.agent))) hb1 h
    simp only [go_sem, Nat.reduceEqDiff, reduceIte, Nat.reduceAdd, Nat.reduceMul, Nat.reduceLeDiff, Nat.reduceLT]
    refine seq_go ?_
    simp only [go_sem, Nat.reduceEqDiff, reduceIte, Nat.reduceAdd, Nat.reduceMul, Nat.reduceLeDiff, Nat.reduceLT]
    refine cond_i (fun hb2 => ?_) (fun hb2 => ?_)
    · replace h := ifT (c := (!decide (a0.slot = a1.slot))) hb2 h
      simp only [go_sem, Nat.reduceEqDiff, reduceIte, Nat.reduceAdd, Nat.reduceMul, Nat.reduceLeDiff, Nat.reduceLT]
      obtain rfl := Option.some.inj h
      simp only [go_sem, Nat.reduceEqDiff, reduceIte, Nat.reduceAdd, Nat.reduceMul, Nat.reduceLeDiff, Nat.reduceLT]
    · replace h := ifF (c := (!decide (a0.slot = a1.slot))) hb2 h
      simp only [go_sem, Nat.reduceEqDiff, reduceIte, Nat.reduceAdd, Nat.reduceMul, Nat.reduceLeDiff, Nat.reduceLT]
      refine seq_go ?_
      simp only [go_sem, Nat.reduceEqDiff, reduceIte, Nat.reduceAdd, Nat.reduceMul, Nat.reduceLeDiff, Nat.reduceLT]
      obtain rfl := Option.some.inj h
      simp only [go_sem, Nat.reduceEqDiff, reduceIte, Nat.reduceAdd, Nat.reduceMul, Nat.reduceLeDiff, Nat.reduceLT]
theorem l_eqPortS_l1_all (n : Nat) : (∀ (a0 : List Port) (a1 : List Port) (p0_0 : Int) (r : Bool), l_eqPortS_l1 n a0 a1 p0_0 = some r → posF Try.prog Try.f263 [1, 1, 0, 1, 0] (.bool r) ⟨[(0, .ro (List.map Port.ds a0)), (1, .ro (List.map Port.ds a1)), (5, .int .i64 p0_0)], [], []⟩) := by
  induction n with
  | zero => exact ((fun _ _ _ _ h => by rw [l_eqPortS_l1] at h; cases h))
  | succ n ih =>
    have ih0 := ih
    · intro a0 a1 p0_0 r h
      rw [l_eqPortS_l1] at h
      refine posF_of rfl rfl ?_
      simp only [go_sem, Nat.reduceEqDiff, reduceIte, Nat.reduceAdd, Nat.reduceMul, Nat.reduceLeDiff, Nat.reduceLT]
      refine loop_i ?_
      simp only [go_sem, Nat.reduceEqDiff, reduceIte, Nat.reduceAdd, Nat.reduceMul, Nat.reduceLeDiff, Nat.reduceLT]
      refine cond_i (fun hb2 => ?_) (fun hb2 => ?_)
      · replace h := ifT (c := (decide (p0_0 < ((List.length a0 : Nat) : Int)))) hb2 h
        simp only [go_sem, Nat.reduceEqDiff, reduceIte, Nat.reduceAdd, Nat.reduceMul, Nat.reduceLeDiff, Nat.reduceLT]
        refine seq_go ?_
        simp only [go_sem, Nat.reduceEqDiff, reduceIte, Nat.reduceAdd, Nat.reduceMul, Nat.reduceLeDiff, Nat.reduceLT]
        obtain ⟨v6002, hv6002, h⟩ := bindE h
        refine idx_m hv6002 (Port.ds_len _) ?_
        simp only [go_sem, Nat.reduceEqDiff, reduceIte, Nat.reduceAdd, Nat.reduceMul, Nat.reduceLeDiff, Nat.reduceLT]
        obtain ⟨v6006, hv6006, h⟩ := bindE h
        refine idx_m hv6006 (Port.ds_len _) ?_
        simp only [go_sem, Nat.reduceEqDiff, reduceIte, Nat.reduceAdd, Nat.reduceMul, Nat.reduceLeDiff, Nat.reduceLT]
        obtain ⟨v6008, hv6008, h⟩ := bindE h
        refine call_i (l_eqPort_ok _ _ _ hv6008) ?_
        simp only [go_sem, Nat.reduceEqDiff, reduceIte, Nat.reduceAdd, Nat.reduceMul, Nat.reduceLeDiff, Nat.reduceLT]
        refine cond_i (fun hb3 => ?_) (fun hb3 => ?_)
        · replace h := ifT (c := (!v6008)) hb3 h
          simp only [go_sem, Nat.reduceEqDiff, reduceIte, Nat.reduceAdd, Nat.reduceMul, Nat.reduceLeDiff, Nat.reduceLT]
          obtain rfl := Option.some.inj h
          simp only [go_sem, Nat.reduceEqDiff, reduceIte, Nat.reduceAdd, Nat.reduceMul, Nat.reduceLeDiff, Nat.reduceLT]
        · replace h := ifF (c := (!v6008)) hb3 h
          simp only [go_sem, Nat.reduceEqDiff, reduceIte, Nat.reduceAdd, Nat.reduceMul, Nat.reduceLeDiff, Nat.reduceLT]
          refine seq_go ?_
          simp only [go_sem, Nat.reduceEqDiff, reduceIte, Nat.reduceAdd, Nat.reduceMul, Nat.reduceLeDiff, Nat.reduceLT]
          have hj := posF_to rfl rfl (ih0 a0 a1 (IntKind.i64.wrap (p0_0 + 1)) _ h)
          refine lp_to hj (.one ⟨_, .done _, [], [], ?_⟩)
          clear hj
          simp only [go_sem, Nat.reduceEqDiff, reduceIte, Nat.reduceAdd, Nat.reduceMul, Nat.reduceLeDiff, Nat.reduceLT]
      · replace h := ifF (c := (decide (p0_0 < ((List.length a0 : Nat) : Int)))) hb2 h
        simp only [go_sem, Nat.reduceEqDiff, reduceIte, Nat.reduceAdd, Nat.reduceMul, Nat.reduceLeDiff, Nat.reduceLT]
        refine seq_go ?_
        simp only [go_sem, Nat.reduceEqDiff, reduceIte, Nat.reduceAdd, Nat.reduceMul, Nat.reduceLeDiff, Nat.reduceLT]
        obtain rfl := Option.some.inj h
        simp only [go_sem, Nat.reduceEqDiff, reduceIte, Nat.reduceAdd, Nat.reduceMul, Nat.reduceLeDiff, Nat.reduceLT]
theorem l_eqPortS_l1_ok (n : Nat) : (∀ (a0 : List Port) (a1 : List Port) (p0_0 : Int) (r : Bool), l_eqPortS_l1 n a0 a1 p0_0 = some r → posF Try.prog Try.f263 [1, 1, 0, 1, 0] (.bool r) ⟨[(0, .ro (List.map Port.ds a0)), (1, .ro (List.map Port.ds a1)), (5, .int .i64 p0_0)], [], []⟩) := (l_eqPortS_l1_all n)

theorem l_eqPortS_ok (a0 : List Port) (a1 : List Port) (r : Bool) (h : l_eqPortS a0 a1 = some r) : AC Try.prog 263 [.ro (List.map Port.ds a0), .ro (List.map Port.ds a1)] (.bool r) := by
  unfold l_eqPortS at h
  refine ac_fn mixed Try.func263 rfl rfl rfl (by kernel_rfl) (by kernel_rfl) ?_
  simp only [go_sem, Nat.reduceEqDiff, reduceIte, Nat.reduceAdd, Nat.reduceMul, Nat.reduceLeDiff, Nat.reduceLT]
  refine cond_i (fun hb1 => ?_) (fun hb1 => ?_)
  · replace h := ifT (c := (!decide (((List.length a0 : Nat) : Int) = ((List.length a1 : Nat) : Int)))) hb1 h
    simp only [go_sem, Nat.reduceEqDiff, reduceIte, Nat.reduceAdd, Nat.reduceMul, Nat.reduceLeDiff, Nat.reduceLT]
    obtain rfl := Option.some.inj h
    simp only [go_sem, Nat.reduceEqDiff, reduceIte, Nat.reduceAdd, Nat.reduceMul, Nat.reduceLeDiff, Nat.reduceLT]
  · replace h := ifF (c := (!decide (((List.length a0 : Nat) : Int) = ((List.length a1 : Nat) : Int)))) hb1 h
    simp only [go_sem, Nat.reduceEqDiff, reduceIte, Nat.reduceAdd, Nat.reduceMul, Nat.reduceLeDiff, Nat.reduceLT]
    refine seq_go ?_
    simp only [go_sem, Nat.reduceEqDiff, reduceIte, Nat.reduceAdd, Nat.reduceMul, Nat.reduceLeDiff, Nat.reduceLT]
    have hj := posF_to rfl rfl (l_eqPortS_l1_ok fuel a0 a1 0 _ h)
    refine loop_to hj (.one ⟨_, .done _, [], [], ?_⟩)
    clear hj
    simp only [go_sem, Nat.reduceEqDiff, reduceIte, Nat.reduceAdd, Nat.reduceMul, Nat.reduceLeDiff, Nat.reduceLT]
theorem l_eqAgent_ok (a0 : Agent) (a1 : Agent) (r : Bool) (h : l_eqAgent a0 a1 = some r) : AC Try.prog 257 [.agg (Agent.avs a0), .agg (Agent.avs a1)] (.bool r) := by
  unfold l_eqAgent at h
  refine ac_fn mixed Try.func257 rfl rfl rfl (by kernel_rfl) (by kernel_rfl) ?_
  simp only [go_sem, Nat.reduceEqDiff, reduceIte, Nat.reduceAdd, Nat.reduceMul, Nat.reduceLeDiff, Nat.reduceLT]
  refine cond_i (fun hb1 => ?_) (fun hb1 => ?_)
  · replace h := ifT (c := (!decide (a0.kind = a1.kind))) hb1 h
    simp only [go_sem, Nat.reduceEqDiff, reduceIte, Nat.reduceAdd, Nat.reduceMul, Nat.reduceLeDiff, Nat.reduceLT]
    obtain rfl := Option.some.inj h
    simp only [go_sem, Nat.reduceEqDiff, reduceIte, Nat.reduceAdd, Nat.reduceMul, Nat.reduceLeDiff, Nat.reduceLT]
  · replace h := ifF (c := (!decide (a0.kind = a1.kind))) hb1 h
    simp only [go_sem, Nat.reduceEqDiff, reduceIte, Nat.reduceAdd, Nat.reduceMul, Nat.reduceLeDiff, Nat.reduceLT]
    refine seq_go ?_
    simp only [go_sem, Nat.reduceEqDiff, reduceIte, Nat.reduceAdd, Nat.reduceMul, Nat.reduceLeDiff, Nat.reduceLT]
    refine cond_i (fun hb2 => ?_) (fun hb2 => ?_)
    · replace h := ifT (c := (!decide (a0.level = a1.level))) hb2 h
      simp only [go_sem, Nat.reduceEqDiff, reduceIte, Nat.reduceAdd, Nat.reduceMul, Nat.reduceLeDiff, Nat.reduceLT]
      obtain rfl := Option.some.inj h
      simp only [go_sem, Nat.reduceEqDiff, reduceIte, Nat.reduceAdd, Nat.reduceMul, Nat.reduceLeDiff, Nat.reduceLT]
    · replace h := ifF (c := (!decide (a0.level = a1.level))) hb2 h
      simp only [go_sem, Nat.reduceEqDiff, reduceIte, Nat.reduceAdd, Nat.reduceMul, Nat.reduceLeDiff, Nat.reduceLT]
      refine seq_go ?_
      simp only [go_sem, Nat.reduceEqDiff, reduceIte, Nat.reduceAdd, Nat.reduceMul, Nat.reduceLeDiff, Nat.reduceLT]
      refine cond_i (fun hb3 => ?_) (fun hb3 => ?_)
      · replace h := ifT (c := (!decide (a0.value = a1.value))) hb3 h
        simp only [go_sem, Nat.reduceEqDiff, reduceIte, Nat.reduceAdd, Nat.reduceMul, Nat.reduceLeDiff, Nat.reduceLT]
        obtain rfl := Option.some.inj h
        simp only [go_sem, Nat.reduceEqDiff, reduceIte, Nat.reduceAdd, Nat.reduceMul, Nat.reduceLeDiff, Nat.reduceLT]
      · replace h := ifF (c := (!decide (a0.value = a1.value))) hb3 h
        simp only [go_sem, Nat.reduceEqDiff, reduceIte, Nat.reduceAdd, Nat.reduceMul, Nat.reduceLeDiff, Nat.reduceLT]
        refine seq_go ?_
        simp only [go_sem, Nat.reduceEqDiff, reduceIte, Nat.reduceAdd, Nat.reduceMul, Nat.reduceLeDiff, Nat.reduceLT]
        obtain ⟨v7004, hv7004, h⟩ := bindE h
        refine call_i (l_eqInt64S_ok _ _ _ hv7004) ?_
        simp only [go_sem, Nat.reduceEqDiff, reduceIte, Nat.reduceAdd, Nat.reduceMul, Nat.reduceLeDiff, Nat.reduceLT]
        refine cond_i (fun hb4 => ?_) (fun hb4 => ?_)
        · replace h := ifT (c := (!v7004)) hb4 h
          simp only [go_sem, Nat.reduceEqDiff, reduceIte, Nat.reduceAdd, Nat.reduceMul, Nat.reduceLeDiff, Nat.reduceLT]
          obtain rfl := Option.some.inj h
          simp only [go_sem, Nat.reduceEqDiff, reduceIte, Nat.reduceAdd, Nat.reduceMul, Nat.reduceLeDiff, Nat.reduceLT]
        · replace h := ifF (c := (!v7004)) hb4 h
          simp only [go_sem, Nat.reduceEqDiff, reduceIte, Nat.reduceAdd, Nat.reduceMul, Nat.reduceLeDiff, Nat.reduceLT]
          refine seq_go ?_
          simp only [go_sem, Nat.reduceEqDiff, reduceIte, Nat.reduceAdd, Nat.reduceMul, Nat.reduceLeDiff, Nat.reduceLT]
          obtain ⟨v9004, hv9004, h⟩ := bindE h
          refine call_i (l_eqPortS_ok _ _ _ hv9004) ?_
          simp only [go_sem, Nat.reduceEqDiff, reduceIte, Nat.reduceAdd, Nat.reduceMul, Nat.reduceLeDiff, Nat.reduceLT]
          refine cond_i (fun hb5 => ?_) (fun hb5 => ?_)
          · replace h := ifT (c := (!v9004)) hb5 h
            simp only [go_sem, Nat.reduceEqDiff, reduceIte, Nat.reduceAdd, Nat.reduceMul, Nat.reduceLeDiff, Nat.reduceLT]
            obtain rfl := Option.some.inj h
            simp only [go_sem, Nat.reduceEqDiff, reduceIte, Nat.reduceAdd, Nat.reduceMul, Nat.reduceLeDiff, Nat.reduceLT]
          · replace h := ifF (c := (!v9004)) hb5 h
            simp only [go_sem, Nat.reduceEqDiff, reduceIte, Nat.reduceAdd, Nat.reduceMul, Nat.reduceLeDiff, Nat.reduceLT]
            refine seq_go ?_
            simp only [go_sem, Nat.reduceEqDiff, reduceIte, Nat.reduceAdd, Nat.reduceMul, Nat.reduceLeDiff, Nat.reduceLT]
            obtain rfl := Option.some.inj h
            simp only [go_sem, Nat.reduceEqDiff, reduceIte, Nat.reduceAdd, Nat.reduceMul, Nat.reduceLeDiff, Nat.reduceLT]
theorem l_eqAgentS_l1_all (n : Nat) : (∀ (a0 : List Agent) (a1 : List Agent) (p0_0 : Int) (r : Bool), l_eqAgentS_l1 n a0 a1 p0_0 = some r → posF Try.prog Try.f245 [1, 1, 0, 1, 0] (.bool r) ⟨[(0, .ro (List.map Agent.ds a0)), (1, .ro (List.map Agent.ds a1)), (5, .int .i64 p0_0)], [], []⟩) := by
  induction n with
  | zero => exact ((fun _ _ _ _ h => by rw [l_eqAgentS_l1] at h; cases h))
  | succ n ih =>
    have ih0 := ih
    · intro a0 a1 p0_0 r h
      rw [l_eqAgentS_l1] at h
      refine posF_of rfl rfl ?_
      simp only [go_sem, Nat.reduceEqDiff, reduceIte, Nat.reduceAdd, Nat.reduceMul, Nat.reduceLeDiff, Nat.reduceLT]
      refine loop_i ?_
      simp only [go_sem, Nat.reduceEqDiff, reduceIte, Nat.reduceAdd, Nat.reduceMul, Nat.reduceLeDiff, Nat.reduceLT]
      refine cond_i (fun hb2 => ?_) (fun hb2 => ?_)
      · replace h := ifT (c := (decide (p0_0 < ((List.length a0 : Nat) : Int)))) hb2 h
        simp only [go_sem, Nat.reduceEqDiff, reduceIte, Nat.reduceAdd, Nat.reduceMul, Nat.reduceLeDiff, Nat.reduceLT]
        refine seq_go ?_
        simp only [go_sem, Nat.reduceEqDiff, reduceIte, Nat.reduceAdd, Nat.reduceMul, Nat.reduceLeDiff, Nat.reduceLT]
        obtain ⟨v6002, hv6002, h⟩ := bindE h
        refine idx_m hv6002 (Agent.ds_len _) ?_
        simp only [go_sem, Nat.reduceEqDiff, reduceIte, Nat.reduceAdd, Nat.reduceMul, Nat.reduceLeDiff, Nat.reduceLT]
        obtain ⟨v6006, hv6006, h⟩ := bindE h
        refine idx_m hv6006 (Agent.ds_len _) ?_
        simp only [go_sem, Nat.reduceEqDiff, reduceIte, Nat.reduceAdd, Nat.reduceMul, Nat.reduceLeDiff, Nat.reduceLT]
        obtain ⟨v6008, hv6008, h⟩ := bindE h
        refine call_i (l_eqAgent_ok _ _ _ hv6008) ?_
        simp only [go_sem, Nat.reduceEqDiff, reduceIte, Nat.reduceAdd, Nat.reduceMul, Nat.reduceLeDiff, Nat.reduceLT]
        refine cond_i (fun hb3 => ?_) (fun hb3 => ?_)
        · replace h := ifT (c := (!v6008)) hb3 h
          simp only [go_sem, Nat.reduceEqDiff, reduceIte, Nat.reduceAdd, Nat.reduceMul, Nat.reduceLeDiff, Nat.reduceLT]
          obtain rfl := Option.some.inj h
          simp only [go_sem, Nat.reduceEqDiff, reduceIte, Nat.reduceAdd, Nat.reduceMul, Nat.reduceLeDiff, Nat.reduceLT]
        · replace h := ifF (c := (!v6008)) hb3 h
          simp only [go_sem, Nat.reduceEqDiff, reduceIte, Nat.reduceAdd, Nat.reduceMul, Nat.reduceLeDiff, Nat.reduceLT]
          refine seq_go ?_
          simp only [go_sem, Nat.reduceEqDiff, reduceIte, Nat.reduceAdd, Nat.reduceMul, Nat.reduceLeDiff, Nat.reduceLT]
          have hj := posF_to rfl rfl (ih0 a0 a1 (IntKind.i64.wrap (p0_0 + 1)) _ h)
          refine lp_to hj (.one ⟨_, .done _, [], [], ?_⟩)
          clear hj
          simp only [go_sem, Nat.reduceEqDiff, reduceIte, Nat.reduceAdd, Nat.reduceMul, Nat.reduceLeDiff, Nat.reduceLT]
      · replace h := ifF (c := (decide (p0_0 < ((List.length a0 : Nat) : Int)))) hb2 h
        simp only [go_sem, Nat.reduceEqDiff, reduceIte, Nat.reduceAdd, Nat.reduceMul, Nat.reduceLeDiff, Nat.reduceLT]
        refine seq_go ?_
        simp only [go_sem, Nat.reduceEqDiff, reduceIte, Nat.reduceAdd, Nat.reduceMul, Nat.reduceLeDiff, Nat.reduceLT]
        obtain rfl := Option.some.inj h
        simp only [go_sem, Nat.reduceEqDiff, reduceIte, Nat.reduceAdd, Nat.reduceMul, Nat.reduceLeDiff, Nat.reduceLT]
theorem l_eqAgentS_l1_ok (n : Nat) : (∀ (a0 : List Agent) (a1 : List Agent) (p0_0 : Int) (r : Bool), l_eqAgentS_l1 n a0 a1 p0_0 = some r → posF Try.prog Try.f245 [1, 1, 0, 1, 0] (.bool r) ⟨[(0, .ro (List.map Agent.ds a0)), (1, .ro (List.map Agent.ds a1)), (5, .int .i64 p0_0)], [], []⟩) := (l_eqAgentS_l1_all n)

theorem l_eqAgentS_ok (a0 : List Agent) (a1 : List Agent) (r : Bool) (h : l_eqAgentS a0 a1 = some r) : AC Try.prog 245 [.ro (List.map Agent.ds a0), .ro (List.map Agent.ds a1)] (.bool r) := by
  unfold l_eqAgentS at h
  refine ac_fn mixed Try.func245 rfl rfl rfl (by kernel_rfl) (by kernel_rfl) ?_
  simp only [go_sem, Nat.reduceEqDiff, reduceIte, Nat.reduceAdd, Nat.reduceMul, Nat.reduceLeDiff, Nat.reduceLT]
  refine cond_i (fun hb1 => ?_) (fun hb1 => ?_)
  · replace h := ifT (c := (!decide (((List.length a0 : Nat) : Int) = ((List.length a1 : Nat) : Int)))) hb1 h
    simp only [go_sem, Nat.reduceEqDiff, reduceIte, Nat.reduceAdd, Nat.reduceMul, Nat.reduceLeDiff, Nat.reduceLT]
    obtain rfl := Option.some.inj h
    simp only [go_sem, Nat.reduceEqDiff, reduceIte, Nat.reduceAdd, Nat.reduceMul, Nat.reduceLeDiff, Nat.reduceLT]
  · replace h := ifF (c := (!decide (((List.length a0 : Nat) : Int) = ((List.length a1 : Nat) : Int)))) hb1 h
    simp only [go_sem, Nat.reduceEqDiff, reduceIte, Nat.reduceAdd, Nat.reduceMul, Nat.reduceLeDiff, Nat.reduceLT]
    refine seq_go ?_
    simp only [go_sem, Nat.reduceEqDiff, reduceIte, Nat.reduceAdd, Nat.reduceMul, Nat.reduceLeDiff, Nat.reduceLT]
    have hj := posF_to rfl rfl (l_eqAgentS_l1_ok fuel a0 a1 0 _ h)
    refine loop_to hj (.one ⟨_, .done _, [], [], ?_⟩)
    clear hj
    simp only [go_sem, Nat.reduceEqDiff, reduceIte, Nat.reduceAdd, Nat.reduceMul, Nat.reduceLeDiff, Nat.reduceLT]
theorem l_eqNet_ok (a0 : Net) (a1 : Net) (r : Bool) (h : l_eqNet a0 a1 = some r) : AC Try.prog 211 [.agg (Net.avs a0), .agg (Net.avs a1)] (.bool r) := by
  unfold l_eqNet at h
  refine ac_fn mixed Try.func211 rfl rfl rfl (by kernel_rfl) (by kernel_rfl) ?_
  simp only [go_sem, Nat.reduceEqDiff, reduceIte, Nat.reduceAdd, Nat.reduceMul, Nat.reduceLeDiff, Nat.reduceLT]
  obtain ⟨v1004, hv1004, h⟩ := bindE h
  refine call_i (l_eqAgentS_ok _ _ _ hv1004) ?_
  simp only [go_sem, Nat.reduceEqDiff, reduceIte, Nat.reduceAdd, Nat.reduceMul, Nat.reduceLeDiff, Nat.reduceLT]
  refine cond_i (fun hb1 => ?_) (fun hb1 => ?_)
  · replace h := ifT (c := (!v1004)) hb1 h
    simp only [go_sem, Nat.reduceEqDiff, reduceIte, Nat.reduceAdd, Nat.reduceMul, Nat.reduceLeDiff, Nat.reduceLT]
    obtain rfl := Option.some.inj h
    simp only [go_sem, Nat.reduceEqDiff, reduceIte, Nat.reduceAdd, Nat.reduceMul, Nat.reduceLeDiff, Nat.reduceLT]
  · replace h := ifF (c := (!v1004)) hb1 h
    simp only [go_sem, Nat.reduceEqDiff, reduceIte, Nat.reduceAdd, Nat.reduceMul, Nat.reduceLeDiff, Nat.reduceLT]
    refine seq_go ?_
    simp only [go_sem, Nat.reduceEqDiff, reduceIte, Nat.reduceAdd, Nat.reduceMul, Nat.reduceLeDiff, Nat.reduceLT]
    obtain rfl := Option.some.inj h
    simp only [go_sem, Nat.reduceEqDiff, reduceIte, Nat.reduceAdd, Nat.reduceMul, Nat.reduceLeDiff, Nat.reduceLT]
theorem l_eqNetS_l1_all (n : Nat) : (∀ (a0 : List Net) (a1 : List Net) (p0_0 : Int) (r : Bool), l_eqNetS_l1 n a0 a1 p0_0 = some r → posF Try.prog Try.f210 [1, 1, 0, 1, 0] (.bool r) ⟨[(0, .ro (List.map Net.ds a0)), (1, .ro (List.map Net.ds a1)), (5, .int .i64 p0_0)], [], []⟩) := by
  induction n with
  | zero => exact ((fun _ _ _ _ h => by rw [l_eqNetS_l1] at h; cases h))
  | succ n ih =>
    have ih0 := ih
    · intro a0 a1 p0_0 r h
      rw [l_eqNetS_l1] at h
      refine posF_of rfl rfl ?_
      simp only [go_sem, Nat.reduceEqDiff, reduceIte, Nat.reduceAdd, Nat.reduceMul, Nat.reduceLeDiff, Nat.reduceLT]
      refine loop_i ?_
      simp only [go_sem, Nat.reduceEqDiff, reduceIte, Nat.reduceAdd, Nat.reduceMul, Nat.reduceLeDiff, Nat.reduceLT]
      refine cond_i (fun hb2 => ?_) (fun hb2 => ?_)
      · replace h := ifT (c := (decide (p0_0 < ((List.length a0 : Nat) : Int)))) hb2 h
        simp only [go_sem, Nat.reduceEqDiff, reduceIte, Nat.reduceAdd, Nat.reduceMul, Nat.reduceLeDiff, Nat.reduceLT]
        refine seq_go ?_
        simp only [go_sem, Nat.reduceEqDiff, reduceIte, Nat.reduceAdd, Nat.reduceMul, Nat.reduceLeDiff, Nat.reduceLT]
        obtain ⟨v6002, hv6002, h⟩ := bindE h
        refine idx_m hv6002 (Net.ds_len _) ?_
        simp only [go_sem, Nat.reduceEqDiff, reduceIte, Nat.reduceAdd, Nat.reduceMul, Nat.reduceLeDiff, Nat.reduceLT]
        obtain ⟨v6006, hv6006, h⟩ := bindE h
        refine idx_m hv6006 (Net.ds_len _) ?_
        simp only [go_sem, Nat.reduceEqDiff, reduceIte, Nat.reduceAdd, Nat.reduceMul, Nat.reduceLeDiff, Nat.reduceLT]
        obtain ⟨v6008, hv6008, h⟩ := bindE h
        refine call_i (l_eqNet_ok _ _ _ hv6008) ?_
        simp only [go_sem, Nat.reduceEqDiff, reduceIte, Nat.reduceAdd, Nat.reduceMul, Nat.reduceLeDiff, Nat.reduceLT]
        refine cond_i (fun hb3 => ?_) (fun hb3 => ?_)
        · replace h := ifT (c := (!v6008)) hb3 h
          simp only [go_sem, Nat.reduceEqDiff, reduceIte, Nat.reduceAdd, Nat.reduceMul, Nat.reduceLeDiff, Nat.reduceLT]
          obtain rfl := Option.some.inj h
          simp only [go_sem, Nat.reduceEqDiff, reduceIte, Nat.reduceAdd, Nat.reduceMul, Nat.reduceLeDiff, Nat.reduceLT]
        · replace h := ifF (c := (!v6008)) hb3 h
          simp only [go_sem, Nat.reduceEqDiff, reduceIte, Nat.reduceAdd, Nat.reduceMul, Nat.reduceLeDiff, Nat.reduceLT]
          refine seq_go ?_
          simp only [go_sem, Nat.reduceEqDiff, reduceIte, Nat.reduceAdd, Nat.reduceMul, Nat.reduceLeDiff, Nat.reduceLT]
          have hj := posF_to rfl rfl (ih0 a0 a1 (IntKind.i64.wrap (p0_0 + 1)) _ h)
          refine lp_to hj (.one ⟨_, .done _, [], [], ?_⟩)
          clear hj
          simp only [go_sem, Nat.reduceEqDiff, reduceIte, Nat.reduceAdd, Nat.reduceMul, Nat.reduceLeDiff, Nat.reduceLT]
      · replace h := ifF (c := (decide (p0_0 < ((List.length a0 : Nat) : Int)))) hb2 h
        simp only [go_sem, Nat.reduceEqDiff, reduceIte, Nat.reduceAdd, Nat.reduceMul, Nat.reduceLeDiff, Nat.reduceLT]
        refine seq_go ?_
        simp only [go_sem, Nat.reduceEqDiff, reduceIte, Nat.reduceAdd, Nat.reduceMul, Nat.reduceLeDiff, Nat.reduceLT]
        obtain rfl := Option.some.inj h
        simp only [go_sem, Nat.reduceEqDiff, reduceIte, Nat.reduceAdd, Nat.reduceMul, Nat.reduceLeDiff, Nat.reduceLT]
theorem l_eqNetS_l1_ok (n : Nat) : (∀ (a0 : List Net) (a1 : List Net) (p0_0 : Int) (r : Bool), l_eqNetS_l1 n a0 a1 p0_0 = some r → posF Try.prog Try.f210 [1, 1, 0, 1, 0] (.bool r) ⟨[(0, .ro (List.map Net.ds a0)), (1, .ro (List.map Net.ds a1)), (5, .int .i64 p0_0)], [], []⟩) := (l_eqNetS_l1_all n)

theorem l_eqNetS_ok (a0 : List Net) (a1 : List Net) (r : Bool) (h : l_eqNetS a0 a1 = some r) : AC Try.prog 210 [.ro (List.map Net.ds a0), .ro (List.map Net.ds a1)] (.bool r) := by
  unfold l_eqNetS at h
  refine ac_fn mixed Try.func210 rfl rfl rfl (by kernel_rfl) (by kernel_rfl) ?_
  simp only [go_sem, Nat.reduceEqDiff, reduceIte, Nat.reduceAdd, Nat.reduceMul, Nat.reduceLeDiff, Nat.reduceLT]
  refine cond_i (fun hb1 => ?_) (fun hb1 => ?_)
  · replace h := ifT (c := (!decide (((List.length a0 : Nat) : Int) = ((List.length a1 : Nat) : Int)))) hb1 h
    simp only [go_sem, Nat.reduceEqDiff, reduceIte, Nat.reduceAdd, Nat.reduceMul, Nat.reduceLeDiff, Nat.reduceLT]
    obtain rfl := Option.some.inj h
    simp only [go_sem, Nat.reduceEqDiff, reduceIte, Nat.reduceAdd, Nat.reduceMul, Nat.reduceLeDiff, Nat.reduceLT]
  · replace h := ifF (c := (!decide (((List.length a0 : Nat) : Int) = ((List.length a1 : Nat) : Int)))) hb1 h
    simp only [go_sem, Nat.reduceEqDiff, reduceIte, Nat.reduceAdd, Nat.reduceMul, Nat.reduceLeDiff, Nat.reduceLT]
    refine seq_go ?_
    simp only [go_sem, Nat.reduceEqDiff, reduceIte, Nat.reduceAdd, Nat.reduceMul, Nat.reduceLeDiff, Nat.reduceLT]
    have hj := posF_to rfl rfl (l_eqNetS_l1_ok fuel a0 a1 0 _ h)
    refine loop_to hj (.one ⟨_, .done _, [], [], ?_⟩)
    clear hj
    simp only [go_sem, Nat.reduceEqDiff, reduceIte, Nat.reduceAdd, Nat.reduceMul, Nat.reduceLeDiff, Nat.reduceLT]
theorem l_eqJob_ok (a0 : Job) (a1 : Job) (r : Bool) (h : l_eqJob a0 a1 = some r) : AC Try.prog 133 [.agg (Job.avs a0), .agg (Job.avs a1)] (.bool r) := by
  unfold l_eqJob at h
  refine ac_fn mixed Try.func133 rfl rfl rfl (by kernel_rfl) (by kernel_rfl) ?_
  simp only [go_sem, Nat.reduceEqDiff, reduceIte, Nat.reduceAdd, Nat.reduceMul, Nat.reduceLeDiff, Nat.reduceLT]
  refine cond_i (fun hb1 => ?_) (fun hb1 => ?_)
  · replace h := ifT (c := (!decide (a0.id = a1.id))) hb1 h
    simp only [go_sem, Nat.reduceEqDiff, reduceIte, Nat.reduceAdd, Nat.reduceMul, Nat.reduceLeDiff, Nat.reduceLT]
    obtain rfl := Option.some.inj h
    simp only [go_sem, Nat.reduceEqDiff, reduceIte, Nat.reduceAdd, Nat.reduceMul, Nat.reduceLeDiff, Nat.reduceLT]
  · replace h := ifF (c := (!decide (a0.id = a1.id))) hb1 h
    simp only [go_sem, Nat.reduceEqDiff, reduceIte, Nat.reduceAdd, Nat.reduceMul, Nat.reduceLeDiff, Nat.reduceLT]
    refine seq_go ?_
    simp only [go_sem, Nat.reduceEqDiff, reduceIte, Nat.reduceAdd, Nat.reduceMul, Nat.reduceLeDiff, Nat.reduceLT]
    refine cond_i (fun hb2 => ?_) (fun hb2 => ?_)
    · replace h := ifT (c := (!decide (a0.weight = a1.weight))) hb2 h
      simp only [go_sem, Nat.reduceEqDiff, reduceIte, Nat.reduceAdd, Nat.reduceMul, Nat.reduceLeDiff, Nat.reduceLT]
      obtain rfl := Option.some.inj h
      simp only [go_sem, Nat.reduceEqDiff, reduceIte, Nat.reduceAdd, Nat.reduceMul, Nat.reduceLeDiff, Nat.reduceLT]
    · replace h := ifF (c := (!decide (a0.weight = a1.weight))) hb2 h
      simp only [go_sem, Nat.reduceEqDiff, reduceIte, Nat.reduceAdd, Nat.reduceMul, Nat.reduceLeDiff, Nat.reduceLT]
      refine seq_go ?_
      simp only [go_sem, Nat.reduceEqDiff, reduceIte, Nat.reduceAdd, Nat.reduceMul, Nat.reduceLeDiff, Nat.reduceLT]
      refine cond_i (fun hb3 => ?_) (fun hb3 => ?_)
      · replace h := ifT (c := (!decide (a0.state = a1.state))) hb3 h
        simp only [go_sem, Nat.reduceEqDiff, reduceIte, Nat.reduceAdd, Nat.reduceMul, Nat.reduceLeDiff, Nat.reduceLT]
        obtain rfl := Option.some.inj h
        simp only [go_sem, Nat.reduceEqDiff, reduceIte, Nat.reduceAdd, Nat.reduceMul, Nat.reduceLeDiff, Nat.reduceLT]
      · replace h := ifF (c := (!decide (a0.state = a1.state))) hb3 h
        simp only [go_sem, Nat.reduceEqDiff, reduceIte, Nat.reduceAdd, Nat.reduceMul, Nat.reduceLeDiff, Nat.reduceLT]
        refine seq_go ?_
        simp only [go_sem, Nat.reduceEqDiff, reduceIte, Nat.reduceAdd, Nat.reduceMul, Nat.reduceLeDiff, Nat.reduceLT]
        refine cond_i (fun hb4 => ?_) (fun hb4 => ?_)
        · replace h := ifT (c := (!decide (a0.code = a1.code))) hb4 h
          simp only [go_sem, Nat.reduceEqDiff, reduceIte, Nat.reduceAdd, Nat.reduceMul, Nat.reduceLeDiff, Nat.reduceLT]
          obtain rfl := Option.some.inj h
          simp only [go_sem, Nat.reduceEqDiff, reduceIte, Nat.reduceAdd, Nat.reduceMul, Nat.reduceLeDiff, Nat.reduceLT]
        · replace h := ifF (c := (!decide (a0.code = a1.code))) hb4 h
          simp only [go_sem, Nat.reduceEqDiff, reduceIte, Nat.reduceAdd, Nat.reduceMul, Nat.reduceLeDiff, Nat.reduceLT]
          refine seq_go ?_
          simp only [go_sem, Nat.reduceEqDiff, reduceIte, Nat.reduceAdd, Nat.reduceMul, Nat.reduceLeDiff, Nat.reduceLT]
          refine cond_i (fun hb5 => ?_) (fun hb5 => ?_)
          · replace h := ifT (c := (!decide (a0.left = a1.left))) hb5 h
            simp only [go_sem, Nat.reduceEqDiff, reduceIte, Nat.reduceAdd, Nat.reduceMul, Nat.reduceLeDiff, Nat.reduceLT]
            obtain rfl := Option.some.inj h
            simp only [go_sem, Nat.reduceEqDiff, reduceIte, Nat.reduceAdd, Nat.reduceMul, Nat.reduceLeDiff, Nat.reduceLT]
          · replace h := ifF (c := (!decide (a0.left = a1.left))) hb5 h
            simp only [go_sem, Nat.reduceEqDiff, reduceIte, Nat.reduceAdd, Nat.reduceMul, Nat.reduceLeDiff, Nat.reduceLT]
            refine seq_go ?_
            simp only [go_sem, Nat.reduceEqDiff, reduceIte, Nat.reduceAdd, Nat.reduceMul, Nat.reduceLeDiff, Nat.reduceLT]
            refine cond_i (fun hb6 => ?_) (fun hb6 => ?_)
            · replace h := ifT (c := (!decide (a0.slices = a1.slices))) hb6 h
              simp only [go_sem, Nat.reduceEqDiff, reduceIte, Nat.reduceAdd, Nat.reduceMul, Nat.reduceLeDiff, Nat.reduceLT]
              obtain rfl := Option.some.inj h
              simp only [go_sem, Nat.reduceEqDiff, reduceIte, Nat.reduceAdd, Nat.reduceMul, Nat.reduceLeDiff, Nat.reduceLT]
            · replace h := ifF (c := (!decide (a0.slices = a1.slices))) hb6 h
              simp only [go_sem, Nat.reduceEqDiff, reduceIte, Nat.reduceAdd, Nat.reduceMul, Nat.reduceLeDiff, Nat.reduceLT]
              refine seq_go ?_
              simp only [go_sem, Nat.reduceEqDiff, reduceIte, Nat.reduceAdd, Nat.reduceMul, Nat.reduceLeDiff, Nat.reduceLT]
              obtain ⟨v13004, hv13004, h⟩ := bindE h
              refine call_i (l_eqInt64S_ok _ _ _ hv13004) ?_
              simp only [go_sem, Nat.reduceEqDiff, reduceIte, Nat.reduceAdd, Nat.reduceMul, Nat.reduceLeDiff, Nat.reduceLT]
              refine cond_i (fun hb7 => ?_) (fun hb7 => ?_)
              · replace h := ifT (c := (!v13004)) hb7 h
                simp only [go_sem, Nat.reduceEqDiff, reduceIte, Nat.reduceAdd, Nat.reduceMul, Nat.reduceLeDiff, Nat.reduceLT]
                obtain rfl := Option.some.inj h
                simp only [go_sem, Nat.reduceEqDiff, reduceIte, Nat.reduceAdd, Nat.reduceMul, Nat.reduceLeDiff, Nat.reduceLT]
              · replace h := ifF (c := (!v13004)) hb7 h
                simp only [go_sem, Nat.reduceEqDiff, reduceIte, Nat.reduceAdd, Nat.reduceMul, Nat.reduceLeDiff, Nat.reduceLT]
                refine seq_go ?_
                simp only [go_sem, Nat.reduceEqDiff, reduceIte, Nat.reduceAdd, Nat.reduceMul, Nat.reduceLeDiff, Nat.reduceLT]
                obtain ⟨v15004, hv15004, h⟩ := bindE h
                refine call_i (l_eqInt64S_ok _ _ _ hv15004) ?_
                simp only [go_sem, Nat.reduceEqDiff, reduceIte, Nat.reduceAdd, Nat.reduceMul, Nat.reduceLeDiff, Nat.reduceLT]
                refine cond_i (fun hb8 => ?_) (fun hb8 => ?_)
                · replace h := ifT (c := (!v15004)) hb8 h
                  simp only [go_sem, Nat.reduceEqDiff, reduceIte, Nat.reduceAdd, Nat.reduceMul, Nat.reduceLeDiff, Nat.reduceLT]
                  obtain rfl := Option.some.inj h
                  simp only [go_sem, Nat.reduceEqDiff, reduceIte, Nat.reduceAdd, Nat.reduceMul, Nat.reduceLeDiff, Nat.reduceLT]
                · replace h := ifF (c := (!v15004)) hb8 h
                  simp only [go_sem, Nat.reduceEqDiff, reduceIte, Nat.reduceAdd, Nat.reduceMul, Nat.reduceLeDiff, Nat.reduceLT]
                  refine seq_go ?_
                  simp only [go_sem, Nat.reduceEqDiff, reduceIte, Nat.reduceAdd, Nat.reduceMul, Nat.reduceLeDiff, Nat.reduceLT]
                  obtain ⟨v17004, hv17004, h⟩ := bindE h
                  refine call_i (l_eqNetS_ok _ _ _ hv17004) ?_
                  simp only [go_sem, Nat.reduceEqDiff, reduceIte, Nat.reduceAdd, Nat.reduceMul, Nat.reduceLeDiff, Nat.reduceLT]
                  refine cond_i (fun hb9 => ?_) (fun hb9 => ?_)
                  · replace h := ifT (c := (!v17004)) hb9 h
                    simp only [go_sem, Nat.reduceEqDiff, reduceIte, Nat.reduceAdd, Nat.reduceMul, Nat.reduceLeDiff, Nat.reduceLT]
                    obtain rfl := Option.some.inj h
                    simp only [go_sem, Nat.reduceEqDiff, reduceIte, Nat.reduceAdd, Nat.reduceMul, Nat.reduceLeDiff, Nat.reduceLT]
                  · replace h := ifF (c := (!v17004)) hb9 h
                    simp only [go_sem, Nat.reduceEqDiff, reduceIte, Nat.reduceAdd, Nat.reduceMul, Nat.reduceLeDiff, Nat.reduceLT]
                    refine seq_go ?_
                    simp only [go_sem, Nat.reduceEqDiff, reduceIte, Nat.reduceAdd, Nat.reduceMul, Nat.reduceLeDiff, Nat.reduceLT]
                    obtain ⟨v19004, hv19004, h⟩ := bindE h
                    refine call_i (l_eqNet_ok _ _ _ hv19004) ?_
                    simp only [go_sem, Nat.reduceEqDiff, reduceIte, Nat.reduceAdd, Nat.reduceMul, Nat.reduceLeDiff, Nat.reduceLT]
                    refine cond_i (fun hb10 => ?_) (fun hb10 => ?_)
                    · replace h := ifT (c := (!v19004)) hb10 h
                      simp only [go_sem, Nat.reduceEqDiff, reduceIte, Nat.reduceAdd, Nat.reduceMul, Nat.reduceLeDiff, Nat.reduceLT]
                      obtain rfl := Option.some.inj h
                      simp only [go_sem, Nat.reduceEqDiff, reduceIte, Nat.reduceAdd, Nat.reduceMul, Nat.reduceLeDiff, Nat.reduceLT]
                    · replace h := ifF (c := (!v19004)) hb10 h
                      simp only [go_sem, Nat.reduceEqDiff, reduceIte, Nat.reduceAdd, Nat.reduceMul, Nat.reduceLeDiff, Nat.reduceLT]
                      refine seq_go ?_
                      simp only [go_sem, Nat.reduceEqDiff, reduceIte, Nat.reduceAdd, Nat.reduceMul, Nat.reduceLeDiff, Nat.reduceLT]
                      obtain rfl := Option.some.inj h
                      simp only [go_sem, Nat.reduceEqDiff, reduceIte, Nat.reduceAdd, Nat.reduceMul, Nat.reduceLeDiff, Nat.reduceLT]
theorem l_eqJobS_l1_all (n : Nat) : (∀ (a0 : List Job) (a1 : List Job) (p0_0 : Int) (r : Bool), l_eqJobS_l1 n a0 a1 p0_0 = some r → posF Try.prog Try.f67 [1, 1, 0, 1, 0] (.bool r) ⟨[(0, .ro (List.map Job.ds a0)), (1, .ro (List.map Job.ds a1)), (5, .int .i64 p0_0)], [], []⟩) := by
  induction n with
  | zero => exact ((fun _ _ _ _ h => by rw [l_eqJobS_l1] at h; cases h))
  | succ n ih =>
    have ih0 := ih
    · intro a0 a1 p0_0 r h
      rw [l_eqJobS_l1] at h
      refine posF_of rfl rfl ?_
      simp only [go_sem, Nat.reduceEqDiff, reduceIte, Nat.reduceAdd, Nat.reduceMul, Nat.reduceLeDiff, Nat.reduceLT]
      refine loop_i ?_
      simp only [go_sem, Nat.reduceEqDiff, reduceIte, Nat.reduceAdd, Nat.reduceMul, Nat.reduceLeDiff, Nat.reduceLT]
      refine cond_i (fun hb2 => ?_) (fun hb2 => ?_)
      · replace h := ifT (c := (decide (p0_0 < ((List.length a0 : Nat) : Int)))) hb2 h
        simp only [go_sem, Nat.reduceEqDiff, reduceIte, Nat.reduceAdd, Nat.reduceMul, Nat.reduceLeDiff, Nat.reduceLT]
        refine seq_go ?_
        simp only [go_sem, Nat.reduceEqDiff, reduceIte, Nat.reduceAdd, Nat.reduceMul, Nat.reduceLeDiff, Nat.reduceLT]
        obtain ⟨v6002, hv6002, h⟩ := bindE h
        refine idx_m hv6002 (Job.ds_len _) ?_
        simp only [go_sem, Nat.reduceEqDiff, reduceIte, Nat.reduceAdd, Nat.reduceMul, Nat.reduceLeDiff, Nat.reduceLT]
        obtain ⟨v6006, hv6006, h⟩ := bindE h
        refine idx_m hv6006 (Job.ds_len _) ?_
        simp only [go_sem, Nat.reduceEqDiff, reduceIte, Nat.reduceAdd, Nat.reduceMul, Nat.reduceLeDiff, Nat.reduceLT]
        obtain ⟨v6008, hv6008, h⟩ := bindE h
        refine call_i (l_eqJob_ok _ _ _ hv6008) ?_
        simp only [go_sem, Nat.reduceEqDiff, reduceIte, Nat.reduceAdd, Nat.reduceMul, Nat.reduceLeDiff, Nat.reduceLT]
        refine cond_i (fun hb3 => ?_) (fun hb3 => ?_)
        · replace h := ifT (c := (!v6008)) hb3 h
          simp only [go_sem, Nat.reduceEqDiff, reduceIte, Nat.reduceAdd, Nat.reduceMul, Nat.reduceLeDiff, Nat.reduceLT]
          obtain rfl := Option.some.inj h
          simp only [go_sem, Nat.reduceEqDiff, reduceIte, Nat.reduceAdd, Nat.reduceMul, Nat.reduceLeDiff, Nat.reduceLT]
        · replace h := ifF (c := (!v6008)) hb3 h
          simp only [go_sem, Nat.reduceEqDiff, reduceIte, Nat.reduceAdd, Nat.reduceMul, Nat.reduceLeDiff, Nat.reduceLT]
          refine seq_go ?_
          simp only [go_sem, Nat.reduceEqDiff, reduceIte, Nat.reduceAdd, Nat.reduceMul, Nat.reduceLeDiff, Nat.reduceLT]
          have hj := posF_to rfl rfl (ih0 a0 a1 (IntKind.i64.wrap (p0_0 + 1)) _ h)
          refine lp_to hj (.one ⟨_, .done _, [], [], ?_⟩)
          clear hj
          simp only [go_sem, Nat.reduceEqDiff, reduceIte, Nat.reduceAdd, Nat.reduceMul, Nat.reduceLeDiff, Nat.reduceLT]
      · replace h := ifF (c := (decide (p0_0 < ((List.length a0 : Nat) : Int)))) hb2 h
        simp only [go_sem, Nat.reduceEqDiff, reduceIte, Nat.reduceAdd, Nat.reduceMul, Nat.reduceLeDiff, Nat.reduceLT]
        refine seq_go ?_
        simp only [go_sem, Nat.reduceEqDiff, reduceIte, Nat.reduceAdd, Nat.reduceMul, Nat.reduceLeDiff, Nat.reduceLT]
        obtain rfl := Option.some.inj h
        simp only [go_sem, Nat.reduceEqDiff, reduceIte, Nat.reduceAdd, Nat.reduceMul, Nat.reduceLeDiff, Nat.reduceLT]
theorem l_eqJobS_l1_ok (n : Nat) : (∀ (a0 : List Job) (a1 : List Job) (p0_0 : Int) (r : Bool), l_eqJobS_l1 n a0 a1 p0_0 = some r → posF Try.prog Try.f67 [1, 1, 0, 1, 0] (.bool r) ⟨[(0, .ro (List.map Job.ds a0)), (1, .ro (List.map Job.ds a1)), (5, .int .i64 p0_0)], [], []⟩) := (l_eqJobS_l1_all n)

theorem l_eqJobS_ok (a0 : List Job) (a1 : List Job) (r : Bool) (h : l_eqJobS a0 a1 = some r) : AC Try.prog 67 [.ro (List.map Job.ds a0), .ro (List.map Job.ds a1)] (.bool r) := by
  unfold l_eqJobS at h
  refine ac_fn mixed Try.func67 rfl rfl rfl (by kernel_rfl) (by kernel_rfl) ?_
  simp only [go_sem, Nat.reduceEqDiff, reduceIte, Nat.reduceAdd, Nat.reduceMul, Nat.reduceLeDiff, Nat.reduceLT]
  refine cond_i (fun hb1 => ?_) (fun hb1 => ?_)
  · replace h := ifT (c := (!decide (((List.length a0 : Nat) : Int) = ((List.length a1 : Nat) : Int)))) hb1 h
    simp only [go_sem, Nat.reduceEqDiff, reduceIte, Nat.reduceAdd, Nat.reduceMul, Nat.reduceLeDiff, Nat.reduceLT]
    obtain rfl := Option.some.inj h
    simp only [go_sem, Nat.reduceEqDiff, reduceIte, Nat.reduceAdd, Nat.reduceMul, Nat.reduceLeDiff, Nat.reduceLT]
  · replace h := ifF (c := (!decide (((List.length a0 : Nat) : Int) = ((List.length a1 : Nat) : Int)))) hb1 h
    simp only [go_sem, Nat.reduceEqDiff, reduceIte, Nat.reduceAdd, Nat.reduceMul, Nat.reduceLeDiff, Nat.reduceLT]
    refine seq_go ?_
    simp only [go_sem, Nat.reduceEqDiff, reduceIte, Nat.reduceAdd, Nat.reduceMul, Nat.reduceLeDiff, Nat.reduceLT]
    have hj := posF_to rfl rfl (l_eqJobS_l1_ok fuel a0 a1 0 _ h)
    refine loop_to hj (.one ⟨_, .done _, [], [], ?_⟩)
    clear hj
    simp only [go_sem, Nat.reduceEqDiff, reduceIte, Nat.reduceAdd, Nat.reduceMul, Nat.reduceLeDiff, Nat.reduceLT]
theorem l_eqQueue_ok (a0 : Queue) (a1 : Queue) (r : Bool) (h : l_eqQueue a0 a1 = some r) : AC Try.prog 16 [.agg (Queue.avs a0), .agg (Queue.avs a1)] (.bool r) := by
  unfold l_eqQueue at h
  refine ac_fn mixed Try.func16 rfl rfl rfl (by kernel_rfl) (by kernel_rfl) ?_
  simp only [go_sem, Nat.reduceEqDiff, reduceIte, Nat.reduceAdd, Nat.reduceMul, Nat.reduceLeDiff, Nat.reduceLT]
  refine cond_i (fun hb1 => ?_) (fun hb1 => ?_)
  · replace h := ifT (c := (!decide (a0.quantum = a1.quantum))) hb1 h
    simp only [go_sem, Nat.reduceEqDiff, reduceIte, Nat.reduceAdd, Nat.reduceMul, Nat.reduceLeDiff, Nat.reduceLT]
    obtain rfl := Option.some.inj h
    simp only [go_sem, Nat.reduceEqDiff, reduceIte, Nat.reduceAdd, Nat.reduceMul, Nat.reduceLeDiff, Nat.reduceLT]
  · replace h := ifF (c := (!decide (a0.quantum = a1.quantum))) hb1 h
    simp only [go_sem, Nat.reduceEqDiff, reduceIte, Nat.reduceAdd, Nat.reduceMul, Nat.reduceLeDiff, Nat.reduceLT]
    refine seq_go ?_
    simp only [go_sem, Nat.reduceEqDiff, reduceIte, Nat.reduceAdd, Nat.reduceMul, Nat.reduceLeDiff, Nat.reduceLT]
    refine cond_i (fun hb2 => ?_) (fun hb2 => ?_)
    · replace h := ifT (c := (!decide (a0.nextId = a1.nextId))) hb2 h
      simp only [go_sem, Nat.reduceEqDiff, reduceIte, Nat.reduceAdd, Nat.reduceMul, Nat.reduceLeDiff, Nat.reduceLT]
      obtain rfl := Option.some.inj h
      simp only [go_sem, Nat.reduceEqDiff, reduceIte, Nat.reduceAdd, Nat.reduceMul, Nat.reduceLeDiff, Nat.reduceLT]
    · replace h := ifF (c := (!decide (a0.nextId = a1.nextId))) hb2 h
      simp only [go_sem, Nat.reduceEqDiff, reduceIte, Nat.reduceAdd, Nat.reduceMul, Nat.reduceLeDiff, Nat.reduceLT]
      refine seq_go ?_
      simp only [go_sem, Nat.reduceEqDiff, reduceIte, Nat.reduceAdd, Nat.reduceMul, Nat.reduceLeDiff, Nat.reduceLT]
      refine cond_i (fun hb3 => ?_) (fun hb3 => ?_)
      · replace h := ifT (c := (!decide (a0.turn = a1.turn))) hb3 h
        simp only [go_sem, Nat.reduceEqDiff, reduceIte, Nat.reduceAdd, Nat.reduceMul, Nat.reduceLeDiff, Nat.reduceLT]
        obtain rfl := Option.some.inj h
        simp only [go_sem, Nat.reduceEqDiff, reduceIte, Nat.reduceAdd, Nat.reduceMul, Nat.reduceLeDiff, Nat.reduceLT]
      · replace h := ifF (c := (!decide (a0.turn = a1.turn))) hb3 h
        simp only [go_sem, Nat.reduceEqDiff, reduceIte, Nat.reduceAdd, Nat.reduceMul, Nat.reduceLeDiff, Nat.reduceLT]
        refine seq_go ?_
        simp only [go_sem, Nat.reduceEqDiff, reduceIte, Nat.reduceAdd, Nat.reduceMul, Nat.reduceLeDiff, Nat.reduceLT]
        obtain ⟨v7004, hv7004, h⟩ := bindE h
        refine call_i (l_eqJobS_ok _ _ _ hv7004) ?_
        simp only [go_sem, Nat.reduceEqDiff, reduceIte, Nat.reduceAdd, Nat.reduceMul, Nat.reduceLeDiff, Nat.reduceLT]
        refine cond_i (fun hb4 => ?_) (fun hb4 => ?_)
        · replace h := ifT (c := (!v7004)) hb4 h
          simp only [go_sem, Nat.reduceEqDiff, reduceIte, Nat.reduceAdd, Nat.reduceMul, Nat.reduceLeDiff, Nat.reduceLT]
          obtain rfl := Option.some.inj h
          simp only [go_sem, Nat.reduceEqDiff, reduceIte, Nat.reduceAdd, Nat.reduceMul, Nat.reduceLeDiff, Nat.reduceLT]
        · replace h := ifF (c := (!v7004)) hb4 h
          simp only [go_sem, Nat.reduceEqDiff, reduceIte, Nat.reduceAdd, Nat.reduceMul, Nat.reduceLeDiff, Nat.reduceLT]
          refine seq_go ?_
          simp only [go_sem, Nat.reduceEqDiff, reduceIte, Nat.reduceAdd, Nat.reduceMul, Nat.reduceLeDiff, Nat.reduceLT]
          obtain rfl := Option.some.inj h
          simp only [go_sem, Nat.reduceEqDiff, reduceIte, Nat.reduceAdd, Nat.reduceMul, Nat.reduceLeDiff, Nat.reduceLT]
theorem l_szPortS_ok (a0 : List Port) (a1 : Int) (r : Int) (h : l_szPortS a0 a1 = some r) : AC Try.prog 264 [.ro (List.map Port.ds a0), .int .i64 a1] (.int .i64 r) := by
  unfold l_szPortS at h
  refine ac_fn mixed Try.func264 rfl rfl rfl (by kernel_rfl) (by kernel_rfl) ?_
  simp only [go_sem, Nat.reduceEqDiff, reduceIte, Nat.reduceAdd, Nat.reduceMul, Nat.reduceLeDiff, Nat.reduceLT]
  refine cond_i (fun hb1 => ?_) (fun hb1 => ?_)
  · replace h := ifT (c := (decide ((IntKind.i64.wrap (a1 - ((List.length a0 : Nat) : Int))) < 0))) hb1 h
    simp only [go_sem, Nat.reduceEqDiff, reduceIte, Nat.reduceAdd, Nat.reduceMul, Nat.reduceLeDiff, Nat.reduceLT]
    obtain rfl := Option.some.inj h
    simp only [go_sem, Nat.reduceEqDiff, reduceIte, Nat.reduceAdd, Nat.reduceMul, Nat.reduceLeDiff, Nat.reduceLT]
  · replace h := ifF (c := (decide ((IntKind.i64.wrap (a1 - ((List.length a0 : Nat) : Int))) < 0))) hb1 h
    simp only [go_sem, Nat.reduceEqDiff, reduceIte, Nat.reduceAdd, Nat.reduceMul, Nat.reduceLeDiff, Nat.reduceLT]
    refine seq_go ?_
    simp only [go_sem, Nat.reduceEqDiff, reduceIte, Nat.reduceAdd, Nat.reduceMul, Nat.reduceLeDiff, Nat.reduceLT]
    obtain rfl := Option.some.inj h
    simp only [go_sem, Nat.reduceEqDiff, reduceIte, Nat.reduceAdd, Nat.reduceMul, Nat.reduceLeDiff, Nat.reduceLT]
theorem l_szAgent_ok (a0 : Agent) (a1 : Int) (r : Int) (h : l_szAgent a0 a1 = some r) : AC Try.prog 258 [.agg (Agent.avs a0), .int .i64 a1] (.int .i64 r) := by
  unfold l_szAgent at h
  refine ac_fn mixed Try.func258 rfl rfl rfl (by kernel_rfl) (by kernel_rfl) ?_
  simp only [go_sem, Nat.reduceEqDiff, reduceIte, Nat.reduceAdd, Nat.reduceMul, Nat.reduceLeDiff, Nat.reduceLT]
  obtain ⟨v1003, hv1003, h⟩ := bindE h
  refine call_i (l_szInt64S_ok _ _ _ hv1003) ?_
  simp only [go_sem, Nat.reduceEqDiff, reduceIte, Nat.reduceAdd, Nat.reduceMul, Nat.reduceLeDiff, Nat.reduceLT]
  refine cond_i (fun hb1 => ?_) (fun hb1 => ?_)
  · replace h := ifT (c := (decide (v1003 < 0))) hb1 h
    simp only [go_sem, Nat.reduceEqDiff, reduceIte, Nat.reduceAdd, Nat.reduceMul, Nat.reduceLeDiff, Nat.reduceLT]
    obtain rfl := Option.some.inj h
    simp only [go_sem, Nat.reduceEqDiff, reduceIte, Nat.reduceAdd, Nat.reduceMul, Nat.reduceLeDiff, Nat.reduceLT]
  · replace h := ifF (c := (decide (v1003 < 0))) hb1 h
    simp only [go_sem, Nat.reduceEqDiff, reduceIte, Nat.reduceAdd, Nat.reduceMul, Nat.reduceLeDiff, Nat.reduceLT]
    refine seq_go ?_
    simp only [go_sem, Nat.reduceEqDiff, reduceIte, Nat.reduceAdd, Nat.reduceMul, Nat.reduceLeDiff, Nat.reduceLT]
    obtain ⟨v4003, hv4003, h⟩ := bindE h
    refine call_i (l_szPortS_ok _ _ _ hv4003) ?_
    simp only [go_sem, Nat.reduceEqDiff, reduceIte, Nat.reduceAdd, Nat.reduceMul, Nat.reduceLeDiff, Nat.reduceLT]
    refine cond_i (fun hb2 => ?_) (fun hb2 => ?_)
    · replace h := ifT (c := (decide (v4003 < 0))) hb2 h
      simp only [go_sem, Nat.reduceEqDiff, reduceIte, Nat.reduceAdd, Nat.reduceMul, Nat.reduceLeDiff, Nat.reduceLT]
      obtain rfl := Option.some.inj h
      simp only [go_sem, Nat.reduceEqDiff, reduceIte, Nat.reduceAdd, Nat.reduceMul, Nat.reduceLeDiff, Nat.reduceLT]
    · replace h := ifF (c := (decide (v4003 < 0))) hb2 h
      simp only [go_sem, Nat.reduceEqDiff, reduceIte, Nat.reduceAdd, Nat.reduceMul, Nat.reduceLeDiff, Nat.reduceLT]
      refine seq_go ?_
      simp only [go_sem, Nat.reduceEqDiff, reduceIte, Nat.reduceAdd, Nat.reduceMul, Nat.reduceLeDiff, Nat.reduceLT]
      obtain rfl := Option.some.inj h
      simp only [go_sem, Nat.reduceEqDiff, reduceIte, Nat.reduceAdd, Nat.reduceMul, Nat.reduceLeDiff, Nat.reduceLT]
theorem l_szAgentS_l1_all (n : Nat) : (∀ (a0 : List Agent) (p0_0 : Int) (p0_1 : Int) (r : Int), l_szAgentS_l1 n a0 p0_0 p0_1 = some r → posF Try.prog Try.f251 [1, 1, 1, 0, 1, 0] (.int .i64 r) ⟨[(0, .ro (List.map Agent.ds a0)), (1, .int .i64 p0_0), (5, .int .i64 p0_1)], [], []⟩) := by
  induction n with
  | zero => exact ((fun _ _ _ _ h => by rw [l_szAgentS_l1] at h; cases h))
  | succ n ih =>
    have ih0 := ih
    · intro a0 p0_0 p0_1 r h
      rw [l_szAgentS_l1] at h
      refine posF_of rfl rfl ?_
      simp only [go_sem, Nat.reduceEqDiff, reduceIte, Nat.reduceAdd, Nat.reduceMul, Nat.reduceLeDiff, Nat.reduceLT]
      refine loop_i ?_
      simp only [go_sem, Nat.reduceEqDiff, reduceIte, Nat.reduceAdd, Nat.reduceMul, Nat.reduceLeDiff, Nat.reduceLT]
      refine cond_i (fun hb2 => ?_) (fun hb2 => ?_)
      · replace h := ifT (c := (decide (p0_1 < ((List.length a0 : Nat) : Int)))) hb2 h
        simp only [go_sem, Nat.reduceEqDiff, reduceIte, Nat.reduceAdd, Nat.reduceMul, Nat.reduceLeDiff, Nat.reduceLT]
        refine seq_go ?_
        simp only [go_sem, Nat.reduceEqDiff, reduceIte, Nat.reduceAdd, Nat.reduceMul, Nat.reduceLeDiff, Nat.reduceLT]
        obtain ⟨v7002, hv7002, h⟩ := bindE h
        refine idx_m hv7002 (Agent.ds_len _) ?_
        simp only [go_sem, Nat.reduceEqDiff, reduceIte, Nat.reduceAdd, Nat.reduceMul, Nat.reduceLeDiff, Nat.reduceLT]
        obtain ⟨v7005, hv7005, h⟩ := bindE h
        refine call_i (l_szAgent_ok _ _ _ hv7005) ?_
        simp only [go_sem, Nat.reduceEqDiff, reduceIte, Nat.reduceAdd, Nat.reduceMul, Nat.reduceLeDiff, Nat.reduceLT]
        refine cond_i (fun hb3 => ?_) (fun hb3 => ?_)
        · replace h := ifT (c := (decide (v7005 < 0))) hb3 h
          simp only [go_sem, Nat.reduceEqDiff, reduceIte, Nat.reduceAdd, Nat.reduceMul, Nat.reduceLeDiff, Nat.reduceLT]
          obtain rfl := Option.some.inj h
          simp only [go_sem, Nat.reduceEqDiff, reduceIte, Nat.reduceAdd, Nat.reduceMul, Nat.reduceLeDiff, Nat.reduceLT]
        · replace h := ifF (c := (decide (v7005 < 0))) hb3 h
          simp only [go_sem, Nat.reduceEqDiff, reduceIte, Nat.reduceAdd, Nat.reduceMul, Nat.reduceLeDiff, Nat.reduceLT]
          refine seq_go ?_
          simp only [go_sem, Nat.reduceEqDiff, reduceIte, Nat.reduceAdd, Nat.reduceMul, Nat.reduceLeDiff, Nat.reduceLT]
          have hj := posF_to rfl rfl (ih0 a0 v7005 (IntKind.i64.wrap (p0_1 + 1)) _ h)
          refine lp_to hj (.one ⟨_, .done _, [], [], ?_⟩)
          clear hj
          simp only [go_sem, Nat.reduceEqDiff, reduceIte, Nat.reduceAdd, Nat.reduceMul, Nat.reduceLeDiff, Nat.reduceLT]
      · replace h := ifF (c := (decide (p0_1 < ((List.length a0 : Nat) : Int)))) hb2 h
        simp only [go_sem, Nat.reduceEqDiff, reduceIte, Nat.reduceAdd, Nat.reduceMul, Nat.reduceLeDiff, Nat.reduceLT]
        refine seq_go ?_
        simp only [go_sem, Nat.reduceEqDiff, reduceIte, Nat.reduceAdd, Nat.reduceMul, Nat.reduceLeDiff, Nat.reduceLT]
        obtain rfl := Option.some.inj h
        simp only [go_sem, Nat.reduceEqDiff, reduceIte, Nat.reduceAdd, Nat.reduceMul, Nat.reduceLeDiff, Nat.reduceLT]
theorem l_szAgentS_l1_ok (n : Nat) : (∀ (a0 : List Agent) (p0_0 : Int) (p0_1 : Int) (r : Int), l_szAgentS_l1 n a0 p0_0 p0_1 = some r → posF Try.prog Try.f251 [1, 1, 1, 0, 1, 0] (.int .i64 r) ⟨[(0, .ro (List.map Agent.ds a0)), (1, .int .i64 p0_0), (5, .int .i64 p0_1)], [], []⟩) := (l_szAgentS_l1_all n)

theorem l_szAgentS_ok (a0 : List Agent) (a1 : Int) (r : Int) (h : l_szAgentS a0 a1 = some r) : AC Try.prog 251 [.ro (List.map Agent.ds a0), .int .i64 a1] (.int .i64 r) := by
  unfold l_szAgentS at h
  refine ac_fn mixed Try.func251 rfl rfl rfl (by kernel_rfl) (by kernel_rfl) ?_
  simp only [go_sem, Nat.reduceEqDiff, reduceIte, Nat.reduceAdd, Nat.reduceMul, Nat.reduceLeDiff, Nat.reduceLT]
  refine cond_i (fun hb1 => ?_) (fun hb1 => ?_)
  · replace h := ifT (c := (decide ((IntKind.i64.wrap (a1 - ((List.length a0 : Nat) : Int))) < 0))) hb1 h
    simp only [go_sem, Nat.reduceEqDiff, reduceIte, Nat.reduceAdd, Nat.reduceMul, Nat.reduceLeDiff, Nat.reduceLT]
    obtain rfl := Option.some.inj h
    simp only [go_sem, Nat.reduceEqDiff, reduceIte, Nat.reduceAdd, Nat.reduceMul, Nat.reduceLeDiff, Nat.reduceLT]
  · replace h := ifF (c := (decide ((IntKind.i64.wrap (a1 - ((List.length a0 : Nat) : Int))) < 0))) hb1 h
    simp only [go_sem, Nat.reduceEqDiff, reduceIte, Nat.reduceAdd, Nat.reduceMul, Nat.reduceLeDiff, Nat.reduceLT]
    refine seq_go ?_
    simp only [go_sem, Nat.reduceEqDiff, reduceIte, Nat.reduceAdd, Nat.reduceMul, Nat.reduceLeDiff, Nat.reduceLT]
    have hj := posF_to rfl rfl (l_szAgentS_l1_ok fuel a0 (IntKind.i64.wrap (a1 - ((List.length a0 : Nat) : Int))) 0 _ h)
    refine loop_to hj (.one ⟨_, .done _, [], [], ?_⟩)
    clear hj
    simp only [go_sem, Nat.reduceEqDiff, reduceIte, Nat.reduceAdd, Nat.reduceMul, Nat.reduceLeDiff, Nat.reduceLT]
theorem l_szNet_ok (a0 : Net) (a1 : Int) (r : Int) (h : l_szNet a0 a1 = some r) : AC Try.prog 227 [.agg (Net.avs a0), .int .i64 a1] (.int .i64 r) := by
  unfold l_szNet at h
  refine ac_fn mixed Try.func227 rfl rfl rfl (by kernel_rfl) (by kernel_rfl) ?_
  simp only [go_sem, Nat.reduceEqDiff, reduceIte, Nat.reduceAdd, Nat.reduceMul, Nat.reduceLeDiff, Nat.reduceLT]
  obtain ⟨v1003, hv1003, h⟩ := bindE h
  refine call_i (l_szAgentS_ok _ _ _ hv1003) ?_
  simp only [go_sem, Nat.reduceEqDiff, reduceIte, Nat.reduceAdd, Nat.reduceMul, Nat.reduceLeDiff, Nat.reduceLT]
  refine cond_i (fun hb1 => ?_) (fun hb1 => ?_)
  · replace h := ifT (c := (decide (v1003 < 0))) hb1 h
    simp only [go_sem, Nat.reduceEqDiff, reduceIte, Nat.reduceAdd, Nat.reduceMul, Nat.reduceLeDiff, Nat.reduceLT]
    obtain rfl := Option.some.inj h
    simp only [go_sem, Nat.reduceEqDiff, reduceIte, Nat.reduceAdd, Nat.reduceMul, Nat.reduceLeDiff, Nat.reduceLT]
  · replace h := ifF (c := (decide (v1003 < 0))) hb1 h
    simp only [go_sem, Nat.reduceEqDiff, reduceIte, Nat.reduceAdd, Nat.reduceMul, Nat.reduceLeDiff, Nat.reduceLT]
    refine seq_go ?_
    simp only [go_sem, Nat.reduceEqDiff, reduceIte, Nat.reduceAdd, Nat.reduceMul, Nat.reduceLeDiff, Nat.reduceLT]
    obtain rfl := Option.some.inj h
    simp only [go_sem, Nat.reduceEqDiff, reduceIte, Nat.reduceAdd, Nat.reduceMul, Nat.reduceLeDiff, Nat.reduceLT]
theorem l_szNetS_l1_all (n : Nat) : (∀ (a0 : List Net) (p0_0 : Int) (p0_1 : Int) (r : Int), l_szNetS_l1 n a0 p0_0 p0_1 = some r → posF Try.prog Try.f226 [1, 1, 1, 0, 1, 0] (.int .i64 r) ⟨[(0, .ro (List.map Net.ds a0)), (1, .int .i64 p0_0), (5, .int .i64 p0_1)], [], []⟩) := by
  induction n with
  | zero => exact ((fun _ _ _ _ h => by rw [l_szNetS_l1] at h; cases h))
  | succ n ih =>
    have ih0 := ih
    · intro a0 p0_0 p0_1 r h
      rw [l_szNetS_l1] at h
      refine posF_of rfl rfl ?_
      simp only [go_sem, Nat.reduceEqDiff, reduceIte, Nat.reduceAdd, Nat.reduceMul, Nat.reduceLeDiff, Nat.reduceLT]
      refine loop_i ?_
      simp only [go_sem, Nat.reduceEqDiff, reduceIte, Nat.reduceAdd, Nat.reduceMul, Nat.reduceLeDiff, Nat.reduceLT]
      refine cond_i (fun hb2 => ?_) (fun hb2 => ?_)
      · replace h := ifT (c := (decide (p0_1 < ((List.length a0 : Nat) : Int)))) hb2 h
        simp only [go_sem, Nat.reduceEqDiff, reduceIte, Nat.reduceAdd, Nat.reduceMul, Nat.reduceLeDiff, Nat.reduceLT]
        refine seq_go ?_
        simp only [go_sem, Nat.reduceEqDiff, reduceIte, Nat.reduceAdd, Nat.reduceMul, Nat.reduceLeDiff, Nat.reduceLT]
        obtain ⟨v7002, hv7002, h⟩ := bindE h
        refine idx_m hv7002 (Net.ds_len _) ?_
        simp only [go_sem, Nat.reduceEqDiff, reduceIte, Nat.reduceAdd, Nat.reduceMul, Nat.reduceLeDiff, Nat.reduceLT]
        obtain ⟨v7005, hv7005, h⟩ := bindE h
        refine call_i (l_szNet_ok _ _ _ hv7005) ?_
        simp only [go_sem, Nat.reduceEqDiff, reduceIte, Nat.reduceAdd, Nat.reduceMul, Nat.reduceLeDiff, Nat.reduceLT]
        refine cond_i (fun hb3 => ?_) (fun hb3 => ?_)
        · replace h := ifT (c := (decide (v7005 < 0))) hb3 h
          simp only [go_sem, Nat.reduceEqDiff, reduceIte, Nat.reduceAdd, Nat.reduceMul, Nat.reduceLeDiff, Nat.reduceLT]
          obtain rfl := Option.some.inj h
          simp only [go_sem, Nat.reduceEqDiff, reduceIte, Nat.reduceAdd, Nat.reduceMul, Nat.reduceLeDiff, Nat.reduceLT]
        · replace h := ifF (c := (decide (v7005 < 0))) hb3 h
          simp only [go_sem, Nat.reduceEqDiff, reduceIte, Nat.reduceAdd, Nat.reduceMul, Nat.reduceLeDiff, Nat.reduceLT]
          refine seq_go ?_
          simp only [go_sem, Nat.reduceEqDiff, reduceIte, Nat.reduceAdd, Nat.reduceMul, Nat.reduceLeDiff, Nat.reduceLT]
          have hj := posF_to rfl rfl (ih0 a0 v7005 (IntKind.i64.wrap (p0_1 + 1)) _ h)
          refine lp_to hj (.one ⟨_, .done _, [], [], ?_⟩)
          clear hj
          simp only [go_sem, Nat.reduceEqDiff, reduceIte, Nat.reduceAdd, Nat.reduceMul, Nat.reduceLeDiff, Nat.reduceLT]
      · replace h := ifF (c := (decide (p0_1 < ((List.length a0 : Nat) : Int)))) hb2 h
        simp only [go_sem, Nat.reduceEqDiff, reduceIte, Nat.reduceAdd, Nat.reduceMul, Nat.reduceLeDiff, Nat.reduceLT]
        refine seq_go ?_
        simp only [go_sem, Nat.reduceEqDiff, reduceIte, Nat.reduceAdd, Nat.reduceMul, Nat.reduceLeDiff, Nat.reduceLT]
        obtain rfl := Option.some.inj h
        simp only [go_sem, Nat.reduceEqDiff, reduceIte, Nat.reduceAdd, Nat.reduceMul, Nat.reduceLeDiff, Nat.reduceLT]
theorem l_szNetS_l1_ok (n : Nat) : (∀ (a0 : List Net) (p0_0 : Int) (p0_1 : Int) (r : Int), l_szNetS_l1 n a0 p0_0 p0_1 = some r → posF Try.prog Try.f226 [1, 1, 1, 0, 1, 0] (.int .i64 r) ⟨[(0, .ro (List.map Net.ds a0)), (1, .int .i64 p0_0), (5, .int .i64 p0_1)], [], []⟩) := (l_szNetS_l1_all n)

theorem l_szNetS_ok (a0 : List Net) (a1 : Int) (r : Int) (h : l_szNetS a0 a1 = some r) : AC Try.prog 226 [.ro (List.map Net.ds a0), .int .i64 a1] (.int .i64 r) := by
  unfold l_szNetS at h
  refine ac_fn mixed Try.func226 rfl rfl rfl (by kernel_rfl) (by kernel_rfl) ?_
  simp only [go_sem, Nat.reduceEqDiff, reduceIte, Nat.reduceAdd, Nat.reduceMul, Nat.reduceLeDiff, Nat.reduceLT]
  refine cond_i (fun hb1 => ?_) (fun hb1 => ?_)
  · replace h := ifT (c := (decide ((IntKind.i64.wrap (a1 - ((List.length a0 : Nat) : Int))) < 0))) hb1 h
    simp only [go_sem, Nat.reduceEqDiff, reduceIte, Nat.reduceAdd, Nat.reduceMul, Nat.reduceLeDiff, Nat.reduceLT]
    obtain rfl := Option.some.inj h
    simp only [go_sem, Nat.reduceEqDiff, reduceIte, Nat.reduceAdd, Nat.reduceMul, Nat.reduceLeDiff, Nat.reduceLT]
  · replace h := ifF (c := (decide ((IntKind.i64.wrap (a1 - ((List.length a0 : Nat) : Int))) < 0))) hb1 h
    simp only [go_sem, Nat.reduceEqDiff, reduceIte, Nat.reduceAdd, Nat.reduceMul, Nat.reduceLeDiff, Nat.reduceLT]
    refine seq_go ?_
    simp only [go_sem, Nat.reduceEqDiff, reduceIte, Nat.reduceAdd, Nat.reduceMul, Nat.reduceLeDiff, Nat.reduceLT]
    have hj := posF_to rfl rfl (l_szNetS_l1_ok fuel a0 (IntKind.i64.wrap (a1 - ((List.length a0 : Nat) : Int))) 0 _ h)
    refine loop_to hj (.one ⟨_, .done _, [], [], ?_⟩)
    clear hj
    simp only [go_sem, Nat.reduceEqDiff, reduceIte, Nat.reduceAdd, Nat.reduceMul, Nat.reduceLeDiff, Nat.reduceLT]
theorem l_szJob_ok (a0 : Job) (a1 : Int) (r : Int) (h : l_szJob a0 a1 = some r) : AC Try.prog 179 [.agg (Job.avs a0), .int .i64 a1] (.int .i64 r) := by
  unfold l_szJob at h
  refine ac_fn mixed Try.func179 rfl rfl rfl (by kernel_rfl) (by kernel_rfl) ?_
  simp only [go_sem, Nat.reduceEqDiff, reduceIte, Nat.reduceAdd, Nat.reduceMul, Nat.reduceLeDiff, Nat.reduceLT]
  obtain ⟨v1003, hv1003, h⟩ := bindE h
  refine call_i (l_szInt64S_ok _ _ _ hv1003) ?_
  simp only [go_sem, Nat.reduceEqDiff, reduceIte, Nat.reduceAdd, Nat.reduceMul, Nat.reduceLeDiff, Nat.reduceLT]
  refine cond_i (fun hb1 => ?_) (fun hb1 => ?_)
  · replace h := ifT (c := (decide (v1003 < 0))) hb1 h
    simp only [go_sem, Nat.reduceEqDiff, reduceIte, Nat.reduceAdd, Nat.reduceMul, Nat.reduceLeDiff, Nat.reduceLT]
    obtain rfl := Option.some.inj h
    simp only [go_sem, Nat.reduceEqDiff, reduceIte, Nat.reduceAdd, Nat.reduceMul, Nat.reduceLeDiff, Nat.reduceLT]
  · replace h := ifF (c := (decide (v1003 < 0))) hb1 h
    simp only [go_sem, Nat.reduceEqDiff, reduceIte, Nat.reduceAdd, Nat.reduceMul, Nat.reduceLeDiff, Nat.reduceLT]
    refine seq_go ?_
    simp only [go_sem, Nat.reduceEqDiff, reduceIte, Nat.reduceAdd, Nat.reduceMul, Nat.reduceLeDiff, Nat.reduceLT]
    obtain ⟨v4003, hv4003, h⟩ := bindE h
    refine call_i (l_szInt64S_ok _ _ _ hv4003) ?_
    simp only [go_sem, Nat.reduceEqDiff, reduceIte, Nat.reduceAdd, Nat.reduceMul, Nat.reduceLeDiff, Nat.reduceLT]
    refine cond_i (fun hb2 => ?_) (fun hb2 => ?_)
    · replace h := ifT (c := (decide (v4003 < 0))) hb2 h
      simp only [go_sem, Nat.reduceEqDiff, reduceIte, Nat.reduceAdd, Nat.reduceMul, Nat.reduceLeDiff, Nat.reduceLT]
      obtain rfl := Option.some.inj h
      simp only [go_sem, Nat.reduceEqDiff, reduceIte, Nat.reduceAdd, Nat.reduceMul, Nat.reduceLeDiff, Nat.reduceLT]
    · replace h := ifF (c := (decide (v4003 < 0))) hb2 h
      simp only [go_sem, Nat.reduceEqDiff, reduceIte, Nat.reduceAdd, Nat.reduceMul, Nat.reduceLeDiff, Nat.reduceLT]
      refine seq_go ?_
      simp only [go_sem, Nat.reduceEqDiff, reduceIte, Nat.reduceAdd, Nat.reduceMul, Nat.reduceLeDiff, Nat.reduceLT]
      obtain ⟨v7003, hv7003, h⟩ := bindE h
      refine call_i (l_szNetS_ok _ _ _ hv7003) ?_
      simp only [go_sem, Nat.reduceEqDiff, reduceIte, Nat.reduceAdd, Nat.reduceMul, Nat.reduceLeDiff, Nat.reduceLT]
      refine cond_i (fun hb3 => ?_) (fun hb3 => ?_)
      · replace h := ifT (c := (decide (v7003 < 0))) hb3 h
        simp only [go_sem, Nat.reduceEqDiff, reduceIte, Nat.reduceAdd, Nat.reduceMul, Nat.reduceLeDiff, Nat.reduceLT]
        obtain rfl := Option.some.inj h
        simp only [go_sem, Nat.reduceEqDiff, reduceIte, Nat.reduceAdd, Nat.reduceMul, Nat.reduceLeDiff, Nat.reduceLT]
      · replace h := ifF (c := (decide (v7003 < 0))) hb3 h
        simp only [go_sem, Nat.reduceEqDiff, reduceIte, Nat.reduceAdd, Nat.reduceMul, Nat.reduceLeDiff, Nat.reduceLT]
        refine seq_go ?_
        simp only [go_sem, Nat.reduceEqDiff, reduceIte, Nat.reduceAdd, Nat.reduceMul, Nat.reduceLeDiff, Nat.reduceLT]
        obtain ⟨v10003, hv10003, h⟩ := bindE h
        refine call_i (l_szNet_ok _ _ _ hv10003) ?_
        simp only [go_sem, Nat.reduceEqDiff, reduceIte, Nat.reduceAdd, Nat.reduceMul, Nat.reduceLeDiff, Nat.reduceLT]
        refine cond_i (fun hb4 => ?_) (fun hb4 => ?_)
        · replace h := ifT (c := (decide (v10003 < 0))) hb4 h
          simp only [go_sem, Nat.reduceEqDiff, reduceIte, Nat.reduceAdd, Nat.reduceMul, Nat.reduceLeDiff, Nat.reduceLT]
          obtain rfl := Option.some.inj h
          simp only [go_sem, Nat.reduceEqDiff, reduceIte, Nat.reduceAdd, Nat.reduceMul, Nat.reduceLeDiff, Nat.reduceLT]
        · replace h := ifF (c := (decide (v10003 < 0))) hb4 h
          simp only [go_sem, Nat.reduceEqDiff, reduceIte, Nat.reduceAdd, Nat.reduceMul, Nat.reduceLeDiff, Nat.reduceLT]
          refine seq_go ?_
          simp only [go_sem, Nat.reduceEqDiff, reduceIte, Nat.reduceAdd, Nat.reduceMul, Nat.reduceLeDiff, Nat.reduceLT]
          obtain rfl := Option.some.inj h
          simp only [go_sem, Nat.reduceEqDiff, reduceIte, Nat.reduceAdd, Nat.reduceMul, Nat.reduceLeDiff, Nat.reduceLT]
theorem l_szJobS_l1_all (n : Nat) : (∀ (a0 : List Job) (p0_0 : Int) (p0_1 : Int) (r : Int), l_szJobS_l1 n a0 p0_0 p0_1 = some r → posF Try.prog Try.f106 [1, 1, 1, 0, 1, 0] (.int .i64 r) ⟨[(0, .ro (List.map Job.ds a0)), (1, .int .i64 p0_0), (5, .int .i64 p0_1)], [], []⟩) := by
  induction n with
  | zero => exact ((fun _ _ _ _ h => by rw [l_szJobS_l1] at h; cases h))
  | succ n ih =>
    have ih0 := ih
    · intro a0 p0_0 p0_1 r h
      rw [l_szJobS_l1] at h
      refine posF_of rfl rfl ?_
      simp only [go_sem, Nat.reduceEqDiff, reduceIte, Nat.reduceAdd, Nat.reduceMul, Nat.reduceLeDiff, Nat.reduceLT]
      refine loop_i ?_
      simp only [go_sem, Nat.reduceEqDiff, reduceIte, Nat.reduceAdd, Nat.reduceMul, Nat.reduceLeDiff, Nat.reduceLT]
      refine cond_i (fun hb2 => ?_) (fun hb2 => ?_)
      · replace h := ifT (c := (decide (p0_1 < ((List.length a0 : Nat) : Int)))) hb2 h
        simp only [go_sem, Nat.reduceEqDiff, reduceIte, Nat.reduceAdd, Nat.reduceMul, Nat.reduceLeDiff, Nat.reduceLT]
        refine seq_go ?_
        simp only [go_sem, Nat.reduceEqDiff, reduceIte, Nat.reduceAdd, Nat.reduceMul, Nat.reduceLeDiff, Nat.reduceLT]
        obtain ⟨v7002, hv7002, h⟩ := bindE h
        refine idx_m hv7002 (Job.ds_len _) ?_
        simp only [go_sem, Nat.reduceEqDiff, reduceIte, Nat.reduceAdd, Nat.reduceMul, Nat.reduceLeDiff, Nat.reduceLT]
        obtain ⟨v7005, hv7005, h⟩ := bindE h
        refine call_i (l_szJob_ok _ _ _ hv7005) ?_
        simp only [go_sem, Nat.reduceEqDiff, reduceIte, Nat.reduceAdd, Nat.reduceMul, Nat.reduceLeDiff, Nat.reduceLT]
        refine cond_i (fun hb3 => ?_) (fun hb3 => ?_)
        · replace h := ifT (c := (decide (v7005 < 0))) hb3 h
          simp only [go_sem, Nat.reduceEqDiff, reduceIte, Nat.reduceAdd, Nat.reduceMul, Nat.reduceLeDiff, Nat.reduceLT]
          obtain rfl := Option.some.inj h
          simp only [go_sem, Nat.reduceEqDiff, reduceIte, Nat.reduceAdd, Nat.reduceMul, Nat.reduceLeDiff, Nat.reduceLT]
        · replace h := ifF (c := (decide (v7005 < 0))) hb3 h
          simp only [go_sem, Nat.reduceEqDiff, reduceIte, Nat.reduceAdd, Nat.reduceMul, Nat.reduceLeDiff, Nat.reduceLT]
          refine seq_go ?_
          simp only [go_sem, Nat.reduceEqDiff, reduceIte, Nat.reduceAdd, Nat.reduceMul, Nat.reduceLeDiff, Nat.reduceLT]
          have hj := posF_to rfl rfl (ih0 a0 v7005 (IntKind.i64.wrap (p0_1 + 1)) _ h)
          refine lp_to hj (.one ⟨_, .done _, [], [], ?_⟩)
          clear hj
          simp only [go_sem, Nat.reduceEqDiff, reduceIte, Nat.reduceAdd, Nat.reduceMul, Nat.reduceLeDiff, Nat.reduceLT]
      · replace h := ifF (c := (decide (p0_1 < ((List.length a0 : Nat) : Int)))) hb2 h
        simp only [go_sem, Nat.reduceEqDiff, reduceIte, Nat.reduceAdd, Nat.reduceMul, Nat.reduceLeDiff, Nat.reduceLT]
        refine seq_go ?_
        simp only [go_sem, Nat.reduceEqDiff, reduceIte, Nat.reduceAdd, Nat.reduceMul, Nat.reduceLeDiff, Nat.reduceLT]
        obtain rfl := Option.some.inj h
        simp only [go_sem, Nat.reduceEqDiff, reduceIte, Nat.reduceAdd, Nat.reduceMul, Nat.reduceLeDiff, Nat.reduceLT]
theorem l_szJobS_l1_ok (n : Nat) : (∀ (a0 : List Job) (p0_0 : Int) (p0_1 : Int) (r : Int), l_szJobS_l1 n a0 p0_0 p0_1 = some r → posF Try.prog Try.f106 [1, 1, 1, 0, 1, 0] (.int .i64 r) ⟨[(0, .ro (List.map Job.ds a0)), (1, .int .i64 p0_0), (5, .int .i64 p0_1)], [], []⟩) := (l_szJobS_l1_all n)

theorem l_szJobS_ok (a0 : List Job) (a1 : Int) (r : Int) (h : l_szJobS a0 a1 = some r) : AC Try.prog 106 [.ro (List.map Job.ds a0), .int .i64 a1] (.int .i64 r) := by
  unfold l_szJobS at h
  refine ac_fn mixed Try.func106 rfl rfl rfl (by kernel_rfl) (by kernel_rfl) ?_
  simp only [go_sem, Nat.reduceEqDiff, reduceIte, Nat.reduceAdd, Nat.reduceMul, Nat.reduceLeDiff, Nat.reduceLT]
  refine cond_i (fun hb1 => ?_) (fun hb1 => ?_)
  · replace h := ifT (c := (decide ((IntKind.i64.wrap (a1 - ((List.length a0 : Nat) : Int))) < 0))) hb1 h
    simp only [go_sem, Nat.reduceEqDiff, reduceIte, Nat.reduceAdd, Nat.reduceMul, Nat.reduceLeDiff, Nat.reduceLT]
    obtain rfl := Option.some.inj h
    simp only [go_sem, Nat.reduceEqDiff, reduceIte, Nat.reduceAdd, Nat.reduceMul, Nat.reduceLeDiff, Nat.reduceLT]
  · replace h := ifF (c := (decide ((IntKind.i64.wrap (a1 - ((List.length a0 : Nat) : Int))) < 0))) hb1 h
    simp only [go_sem, Nat.reduceEqDiff, reduceIte, Nat.reduceAdd, Nat.reduceMul, Nat.reduceLeDiff, Nat.reduceLT]
    refine seq_go ?_
    simp only [go_sem, Nat.reduceEqDiff, reduceIte, Nat.reduceAdd, Nat.reduceMul, Nat.reduceLeDiff, Nat.reduceLT]
    have hj := posF_to rfl rfl (l_szJobS_l1_ok fuel a0 (IntKind.i64.wrap (a1 - ((List.length a0 : Nat) : Int))) 0 _ h)
    refine loop_to hj (.one ⟨_, .done _, [], [], ?_⟩)
    clear hj
    simp only [go_sem, Nat.reduceEqDiff, reduceIte, Nat.reduceAdd, Nat.reduceMul, Nat.reduceLeDiff, Nat.reduceLT]
theorem l_szQueue_ok (a0 : Queue) (a1 : Int) (r : Int) (h : l_szQueue a0 a1 = some r) : AC Try.prog 45 [.agg (Queue.avs a0), .int .i64 a1] (.int .i64 r) := by
  unfold l_szQueue at h
  refine ac_fn mixed Try.func45 rfl rfl rfl (by kernel_rfl) (by kernel_rfl) ?_
  simp only [go_sem, Nat.reduceEqDiff, reduceIte, Nat.reduceAdd, Nat.reduceMul, Nat.reduceLeDiff, Nat.reduceLT]
  obtain ⟨v1003, hv1003, h⟩ := bindE h
  refine call_i (l_szJobS_ok _ _ _ hv1003) ?_
  simp only [go_sem, Nat.reduceEqDiff, reduceIte, Nat.reduceAdd, Nat.reduceMul, Nat.reduceLeDiff, Nat.reduceLT]
  refine cond_i (fun hb1 => ?_) (fun hb1 => ?_)
  · replace h := ifT (c := (decide (v1003 < 0))) hb1 h
    simp only [go_sem, Nat.reduceEqDiff, reduceIte, Nat.reduceAdd, Nat.reduceMul, Nat.reduceLeDiff, Nat.reduceLT]
    obtain rfl := Option.some.inj h
    simp only [go_sem, Nat.reduceEqDiff, reduceIte, Nat.reduceAdd, Nat.reduceMul, Nat.reduceLeDiff, Nat.reduceLT]
  · replace h := ifF (c := (decide (v1003 < 0))) hb1 h
    simp only [go_sem, Nat.reduceEqDiff, reduceIte, Nat.reduceAdd, Nat.reduceMul, Nat.reduceLeDiff, Nat.reduceLT]
    refine seq_go ?_
    simp only [go_sem, Nat.reduceEqDiff, reduceIte, Nat.reduceAdd, Nat.reduceMul, Nat.reduceLeDiff, Nat.reduceLT]
    obtain rfl := Option.some.inj h
    simp only [go_sem, Nat.reduceEqDiff, reduceIte, Nat.reduceAdd, Nat.reduceMul, Nat.reduceLeDiff, Nat.reduceLT]
theorem s_l00Same_l1_all (n : Nat) : (∀ (a0 : List Int) (a1 : List Int) (p0_0 : Int) (r : Bool), s_l00Same_l1 n a0 a1 p0_0 = some r → posF Try.prog Try.f180 [1, 1, 0, 1, 0] (.bool r) ⟨[(0, .ro (List.map i64D a0)), (1, .ro (List.map i64D a1)), (5, .int .i64 p0_0)], [], []⟩) := by
  induction n with
  | zero => exact ((fun _ _ _ _ h => by rw [s_l00Same_l1] at h; cases h))
  | succ n ih =>
    have ih0 := ih
    · intro a0 a1 p0_0 r h
      rw [s_l00Same_l1] at h
      refine posF_of rfl rfl ?_
      simp only [go_sem, Nat.reduceEqDiff, reduceIte, Nat.reduceAdd, Nat.reduceMul, Nat.reduceLeDiff, Nat.reduceLT]
      refine loop_i ?_
      simp only [go_sem, Nat.reduceEqDiff, reduceIte, Nat.reduceAdd, Nat.reduceMul, Nat.reduceLeDiff, Nat.reduceLT]
      refine cond_i (fun hb2 => ?_) (fun hb2 => ?_)
      · replace h := ifT (c := (decide (p0_0 < ((List.length a0 : Nat) : Int)))) hb2 h
        simp only [go_sem, Nat.reduceEqDiff, reduceIte, Nat.reduceAdd, Nat.reduceMul, Nat.reduceLeDiff, Nat.reduceLT]
        refine seq_go ?_
        simp only [go_sem, Nat.reduceEqDiff, reduceIte, Nat.reduceAdd, Nat.reduceMul, Nat.reduceLeDiff, Nat.reduceLT]
        obtain ⟨v6002, hv6002, h⟩ := bindE h
        refine idx_m hv6002 rfl ?_
        simp only [go_sem, Nat.reduceEqDiff, reduceIte, Nat.reduceAdd, Nat.reduceMul, Nat.reduceLeDiff, Nat.reduceLT]
        obtain ⟨v6006, hv6006, h⟩ := bindE h
        refine idx_m hv6006 rfl ?_
        simp only [go_sem, Nat.reduceEqDiff, reduceIte, Nat.reduceAdd, Nat.reduceMul, Nat.reduceLeDiff, Nat.reduceLT]
        refine cond_i (fun hb3 => ?_) (fun hb3 => ?_)
        · replace h := ifT (c := (!decide (v6002 = v6006))) hb3 h
          simp only [go_sem, Nat.reduceEqDiff, reduceIte, Nat.reduceAdd, Nat.reduceMul, Nat.reduceLeDiff, Nat.reduceLT]
          obtain rfl := Option.some.inj h
          simp only [go_sem, Nat.reduceEqDiff, reduceIte, Nat.reduceAdd, Nat.reduceMul, Nat.reduceLeDiff, Nat.reduceLT]
        · replace h := ifF (c := (!decide (v6002 = v6006))) hb3 h
          simp only [go_sem, Nat.reduceEqDiff, reduceIte, Nat.reduceAdd, Nat.reduceMul, Nat.reduceLeDiff, Nat.reduceLT]
          refine seq_go ?_
          simp only [go_sem, Nat.reduceEqDiff, reduceIte, Nat.reduceAdd, Nat.reduceMul, Nat.reduceLeDiff, Nat.reduceLT]
          have hj := posF_to rfl rfl (ih0 a0 a1 (IntKind.i64.wrap (p0_0 + 1)) _ h)
          refine lp_to hj (.one ⟨_, .done _, [], [], ?_⟩)
          clear hj
          simp only [go_sem, Nat.reduceEqDiff, reduceIte, Nat.reduceAdd, Nat.reduceMul, Nat.reduceLeDiff, Nat.reduceLT]
      · replace h := ifF (c := (decide (p0_0 < ((List.length a0 : Nat) : Int)))) hb2 h
        simp only [go_sem, Nat.reduceEqDiff, reduceIte, Nat.reduceAdd, Nat.reduceMul, Nat.reduceLeDiff, Nat.reduceLT]
        refine seq_go ?_
        simp only [go_sem, Nat.reduceEqDiff, reduceIte, Nat.reduceAdd, Nat.reduceMul, Nat.reduceLeDiff, Nat.reduceLT]
        obtain rfl := Option.some.inj h
        simp only [go_sem, Nat.reduceEqDiff, reduceIte, Nat.reduceAdd, Nat.reduceMul, Nat.reduceLeDiff, Nat.reduceLT]
theorem s_l00Same_l1_ok (n : Nat) : (∀ (a0 : List Int) (a1 : List Int) (p0_0 : Int) (r : Bool), s_l00Same_l1 n a0 a1 p0_0 = some r → posF Try.prog Try.f180 [1, 1, 0, 1, 0] (.bool r) ⟨[(0, .ro (List.map i64D a0)), (1, .ro (List.map i64D a1)), (5, .int .i64 p0_0)], [], []⟩) := (s_l00Same_l1_all n)

theorem s_l00Same_ok (a0 : List Int) (a1 : List Int) (r : Bool) (h : s_l00Same a0 a1 = some r) : AC Try.prog 180 [.ro (List.map i64D a0), .ro (List.map i64D a1)] (.bool r) := by
  unfold s_l00Same at h
  refine ac_fn mixed Try.func180 rfl rfl rfl (by kernel_rfl) (by kernel_rfl) ?_
  simp only [go_sem, Nat.reduceEqDiff, reduceIte, Nat.reduceAdd, Nat.reduceMul, Nat.reduceLeDiff, Nat.reduceLT]
  refine cond_i (fun hb1 => ?_) (fun hb1 => ?_)
  · replace h := ifT (c := (!decide (((List.length a0 : Nat) : Int) = ((List.length a1 : Nat) : Int)))) hb1 h
    simp only [go_sem, Nat.reduceEqDiff, reduceIte, Nat.reduceAdd, Nat.reduceMul, Nat.reduceLeDiff, Nat.reduceLT]
    obtain rfl := Option.some.inj h
    simp only [go_sem, Nat.reduceEqDiff, reduceIte, Nat.reduceAdd, Nat.reduceMul, Nat.reduceLeDiff, Nat.reduceLT]
  · replace h := ifF (c := (!decide (((List.length a0 : Nat) : Int) = ((List.length a1 : Nat) : Int)))) hb1 h
    simp only [go_sem, Nat.reduceEqDiff, reduceIte, Nat.reduceAdd, Nat.reduceMul, Nat.reduceLeDiff, Nat.reduceLT]
    refine seq_go ?_
    simp only [go_sem, Nat.reduceEqDiff, reduceIte, Nat.reduceAdd, Nat.reduceMul, Nat.reduceLeDiff, Nat.reduceLT]
    have hj := posF_to rfl rfl (s_l00Same_l1_ok fuel a0 a1 0 _ h)
    refine loop_to hj (.one ⟨_, .done _, [], [], ?_⟩)
    clear hj
    simp only [go_sem, Nat.reduceEqDiff, reduceIte, Nat.reduceAdd, Nat.reduceMul, Nat.reduceLeDiff, Nat.reduceLT]
theorem s_l11SameAgent_l2_all (n : Nat) : (∀ (a0 : Agent) (a1 : Agent) (p1_0 : Int) (r : Bool), s_l11SameAgent_l2 n a0 a1 p1_0 = some r → posF Try.prog Try.f228 [1, 1, 0, 1, 0] (.bool r) ⟨[(0, .rop [.int .i64 a0.kind, .int .i64 a0.level, .int .i64 a0.value, .ro (List.map i64D a0.data), .ro (List.map Port.ds a0.ports)] 0), (1, .rop [.int .i64 a1.kind, .int .i64 a1.level, .int .i64 a1.value, .ro (List.map i64D a1.data), .ro (List.map Port.ds a1.ports)] 0), (5, .int .i64 p1_0)], [], []⟩) := by
  induction n with
  | zero => exact ((fun _ _ _ _ h => by rw [s_l11SameAgent_l2] at h; cases h))
  | succ n ih =>
    have ih0 := ih
    · intro a0 a1 p1_0 r h
      rw [s_l11SameAgent_l2] at h
      refine posF_of rfl rfl ?_
      simp only [go_sem, Nat.reduceEqDiff, reduceIte, Nat.reduceAdd, Nat.reduceMul, Nat.reduceLeDiff, Nat.reduceLT]
      refine loop_i ?_
      simp only [go_sem, Nat.reduceEqDiff, reduceIte, Nat.reduceAdd, Nat.reduceMul, Nat.reduceLeDiff, Nat.reduceLT]
      refine cond_i (fun hb6 => ?_) (fun hb6 => ?_)
      · replace h := ifT (c := (decide (p1_0 < ((List.length a0.ports : Nat) : Int)))) hb6 h
        simp only [go_sem, Nat.reduceEqDiff, reduceIte, Nat.reduceAdd, Nat.reduceMul, Nat.reduceLeDiff, Nat.reduceLT]
        refine seq_go ?_
        simp only [go_sem, Nat.reduceEqDiff, reduceIte, Nat.reduceAdd, Nat.reduceMul, Nat.reduceLeDiff, Nat.reduceLT]
        obtain ⟨v6005, hv6005, h⟩ := bindE h
        refine idx_m hv6005 (Port.ds_len _) ?_
        simp only [go_sem, Nat.reduceEqDiff, reduceIte, Nat.reduceAdd, Nat.reduceMul, Nat.reduceLeDiff, Nat.reduceLT]
        obtain ⟨v6012, hv6012, h⟩ := bindE h
        refine idx_m hv6012 (Port.ds_len _) ?_
        simp only [go_sem, Nat.reduceEqDiff, reduceIte, Nat.reduceAdd, Nat.reduceMul, Nat.reduceLeDiff, Nat.reduceLT]
        refine cond_i (fun hb7 => ?_) (fun hb7 => ?_)
        · replace h := ifT (c := (!(decide (v6005.agent = v6012.agent) && decide (v6005.slot = v6012.slot)))) hb7 h
          simp only [go_sem, Nat.reduceEqDiff, reduceIte, Nat.reduceAdd, Nat.reduceMul, Nat.reduceLeDiff, Nat.reduceLT]
          obtain rfl := Option.some.inj h
          simp only [go_sem, Nat.reduceEqDiff, reduceIte, Nat.reduceAdd, Nat.reduceMul, Nat.reduceLeDiff, Nat.reduceLT]
        · replace h := ifF (c := (!(decide (v6005.agent = v6012.agent) && decide (v6005.slot = v6012.slot)))) hb7 h
          simp only [go_sem, Nat.reduceEqDiff, reduceIte, Nat.reduceAdd, Nat.reduceMul, Nat.reduceLeDiff, Nat.reduceLT]
          refine seq_go ?_
          simp only [go_sem, Nat.reduceEqDiff, reduceIte, Nat.reduceAdd, Nat.reduceMul, Nat.reduceLeDiff, Nat.reduceLT]
          have hj := posF_to rfl rfl (ih0 a0 a1 (IntKind.i64.wrap (p1_0 + 1)) _ h)
          refine lp_to hj (.one ⟨_, .done _, [], [], ?_⟩)
          clear hj
          simp only [go_sem, Nat.reduceEqDiff, reduceIte, Nat.reduceAdd, Nat.reduceMul, Nat.reduceLeDiff, Nat.reduceLT]
      · replace h := ifF (c := (decide (p1_0 < ((List.length a0.ports : Nat) : Int)))) hb6 h
        simp only [go_sem, Nat.reduceEqDiff, reduceIte, Nat.reduceAdd, Nat.reduceMul, Nat.reduceLeDiff, Nat.reduceLT]
        refine seq_go ?_
        simp only [go_sem, Nat.reduceEqDiff, reduceIte, Nat.reduceAdd, Nat.reduceMul, Nat.reduceLeDiff, Nat.reduceLT]
        obtain rfl := Option.some.inj h
        simp only [go_sem, Nat.reduceEqDiff, reduceIte, Nat.reduceAdd, Nat.reduceMul, Nat.reduceLeDiff, Nat.reduceLT]
theorem s_l11SameAgent_l2_ok (n : Nat) : (∀ (a0 : Agent) (a1 : Agent) (p1_0 : Int) (r : Bool), s_l11SameAgent_l2 n a0 a1 p1_0 = some r → posF Try.prog Try.f228 [1, 1, 0, 1, 0] (.bool r) ⟨[(0, .rop [.int .i64 a0.kind, .int .i64 a0.level, .int .i64 a0.value, .ro (List.map i64D a0.data), .ro (List.map Port.ds a0.ports)] 0), (1, .rop [.int .i64 a1.kind, .int .i64 a1.level, .int .i64 a1.value, .ro (List.map i64D a1.data), .ro (List.map Port.ds a1.ports)] 0), (5, .int .i64 p1_0)], [], []⟩) := (s_l11SameAgent_l2_all n)

theorem s_l11SameAgent_j1_ok (a0 : Agent) (a1 : Agent) (p0_0 : Bool) (r : Bool) (h : s_l11SameAgent_j1 a0 a1 p0_0 = some r) : posF Try.prog Try.f228 [1, 0, 1] (.bool r) ⟨[(0, .rop [.int .i64 a0.kind, .int .i64 a0.level, .int .i64 a0.value, .ro (List.map i64D a0.data), .ro (List.map Port.ds a0.ports)] 0), (1, .rop [.int .i64 a1.kind, .int .i64 a1.level, .int .i64 a1.value, .ro (List.map i64D a1.data), .ro (List.map Port.ds a1.ports)] 0), (61, .bool p0_0)], [], []⟩ := by
  unfold s_l11SameAgent_j1 at h
  refine posF_of rfl rfl ?_
  simp only [go_sem, Nat.reduceEqDiff, reduceIte, Nat.reduceAdd, Nat.reduceMul, Nat.reduceLeDiff, Nat.reduceLT]
  refine cond_i (fun hb5 => ?_) (fun hb5 => ?_)
  · replace h := ifT (c := p0_0) hb5 h
    simp only [go_sem, Nat.reduceEqDiff, reduceIte, Nat.reduceAdd, Nat.reduceMul, Nat.reduceLeDiff, Nat.reduceLT]
    obtain rfl := Option.some.inj h
    simp only [go_sem, Nat.reduceEqDiff, reduceIte, Nat.reduceAdd, Nat.reduceMul, Nat.reduceLeDiff, Nat.reduceLT]
  · replace h := ifF (c := p0_0) hb5 h
    simp only [go_sem, Nat.reduceEqDiff, reduceIte, Nat.reduceAdd, Nat.reduceMul, Nat.reduceLeDiff, Nat.reduceLT]
    refine seq_go ?_
    simp only [go_sem, Nat.reduceEqDiff, reduceIte, Nat.reduceAdd, Nat.reduceMul, Nat.reduceLeDiff, Nat.reduceLT]
    have hj := posF_to rfl rfl (s_l11SameAgent_l2_ok fuel a0 a1 0 _ h)
    refine loop_to hj (.one ⟨_, .done _, [], [], ?_⟩)
    clear hj
    simp only [go_sem, Nat.reduceEqDiff, reduceIte, Nat.reduceAdd, Nat.reduceMul, Nat.reduceLeDiff, Nat.reduceLT]
theorem s_l11SameAgent_ok (a0 : Agent) (a1 : Agent) (r : Bool) (h : s_l11SameAgent a0 a1 = some r) : AC Try.prog 228 [.rop (Agent.avs a0) 0, .rop (Agent.avs a1) 0] (.bool r) := by
  unfold s_l11SameAgent at h
  refine ac_fn mixed Try.func228 rfl rfl rfl (by kernel_rfl) (by kernel_rfl) ?_
  simp only [go_sem, Nat.reduceEqDiff, reduceIte, Nat.reduceAdd, Nat.reduceMul, Nat.reduceLeDiff, Nat.reduceLT]
  refine cond_i (fun hb1 => ?_) (fun hb1 => ?_)
  · replace h := ifT (c := (!decide (a0.kind = a1.kind))) hb1 h
    simp only [go_sem, Nat.reduceEqDiff, reduceIte, Nat.reduceAdd, Nat.reduceMul, Nat.reduceLeDiff, Nat.reduceLT]
    have hj := posF_to rfl rfl (s_l11SameAgent_j1_ok a0 a1 true _ h)
    refine seq_to hj (.one ⟨_, .done _, [], [], ?_⟩)
    clear hj
    simp only [go_sem, Nat.reduceEqDiff, reduceIte, Nat.reduceAdd, Nat.reduceMul, Nat.reduceLeDiff, Nat.reduceLT]
  · replace h := ifF (c := (!decide (a0.kind = a1.kind))) hb1 h
    simp only [go_sem, Nat.reduceEqDiff, reduceIte, Nat.reduceAdd, Nat.reduceMul, Nat.reduceLeDiff, Nat.reduceLT]
    refine cond_i (fun hb2 => ?_) (fun hb2 => ?_)
    · replace h := ifT (c := (!decide (a0.level = a1.level))) hb2 h
      simp only [go_sem, Nat.reduceEqDiff, reduceIte, Nat.reduceAdd, Nat.reduceMul, Nat.reduceLeDiff, Nat.reduceLT]
      have hj := posF_to rfl rfl (s_l11SameAgent_j1_ok a0 a1 true _ h)
      refine seq_to hj (.one ⟨_, .done _, [], [], ?_⟩)
      clear hj
      simp only [go_sem, Nat.reduceEqDiff, reduceIte, Nat.reduceAdd, Nat.reduceMul, Nat.reduceLeDiff, Nat.reduceLT]
    · replace h := ifF (c := (!decide (a0.level = a1.level))) hb2 h
      simp only [go_sem, Nat.reduceEqDiff, reduceIte, Nat.reduceAdd, Nat.reduceMul, Nat.reduceLeDiff, Nat.reduceLT]
      refine cond_i (fun hb3 => ?_) (fun hb3 => ?_)
      · replace h := ifT (c := (!decide (a0.value = a1.value))) hb3 h
        simp only [go_sem, Nat.reduceEqDiff, reduceIte, Nat.reduceAdd, Nat.reduceMul, Nat.reduceLeDiff, Nat.reduceLT]
        have hj := posF_to rfl rfl (s_l11SameAgent_j1_ok a0 a1 true _ h)
        refine seq_to hj (.one ⟨_, .done _, [], [], ?_⟩)
        clear hj
        simp only [go_sem, Nat.reduceEqDiff, reduceIte, Nat.reduceAdd, Nat.reduceMul, Nat.reduceLeDiff, Nat.reduceLT]
      · replace h := ifF (c := (!decide (a0.value = a1.value))) hb3 h
        simp only [go_sem, Nat.reduceEqDiff, reduceIte, Nat.reduceAdd, Nat.reduceMul, Nat.reduceLeDiff, Nat.reduceLT]
        obtain ⟨v1040, hv1040, h⟩ := bindE h
        refine call_i (s_l00Same_ok _ _ _ hv1040) ?_
        simp only [go_sem, Nat.reduceEqDiff, reduceIte, Nat.reduceAdd, Nat.reduceMul, Nat.reduceLeDiff, Nat.reduceLT]
        refine cond_i (fun hb4 => ?_) (fun hb4 => ?_)
        · replace h := ifT (c := (!v1040)) hb4 h
          simp only [go_sem, Nat.reduceEqDiff, reduceIte, Nat.reduceAdd, Nat.reduceMul, Nat.reduceLeDiff, Nat.reduceLT]
          have hj := posF_to rfl rfl (s_l11SameAgent_j1_ok a0 a1 true _ h)
          refine seq_to hj (.one ⟨_, .done _, [], [], ?_⟩)
          clear hj
          simp only [go_sem, Nat.reduceEqDiff, reduceIte, Nat.reduceAdd, Nat.reduceMul, Nat.reduceLeDiff, Nat.reduceLT]
        · replace h := ifF (c := (!v1040)) hb4 h
          simp only [go_sem, Nat.reduceEqDiff, reduceIte, Nat.reduceAdd, Nat.reduceMul, Nat.reduceLeDiff, Nat.reduceLT]
          have hj := posF_to rfl rfl (s_l11SameAgent_j1_ok a0 a1 (!decide (((List.length a0.ports : Nat) : Int) = ((List.length a1.ports : Nat) : Int))) _ h)
          refine seq_to hj (.one ⟨_, .done _, [], [], ?_⟩)
          clear hj
          simp only [go_sem, Nat.reduceEqDiff, reduceIte, Nat.reduceAdd, Nat.reduceMul, Nat.reduceLeDiff, Nat.reduceLT]
theorem s_l11Same_l1_all (n : Nat) : (∀ (a0 : Net) (a1 : Net) (p0_0 : Int) (r : Bool), s_l11Same_l1 n a0 a1 p0_0 = some r → posF Try.prog Try.f182 [1, 1, 0, 1, 0] (.bool r) ⟨[(0, .rop [.ro (List.map Agent.ds a0.agents)] 0), (1, .rop [.ro (List.map Agent.ds a1.agents)] 0), (5, .int .i64 p0_0)], [], []⟩) := by
  induction n with
  | zero => exact ((fun _ _ _ _ h => by rw [s_l11Same_l1] at h; cases h))
  | succ n ih =>
    have ih0 := ih
    · intro a0 a1 p0_0 r h
      rw [s_l11Same_l1] at h
      refine posF_of rfl rfl ?_
      simp only [go_sem, Nat.reduceEqDiff, reduceIte, Nat.reduceAdd, Nat.reduceMul, Nat.reduceLeDiff, Nat.reduceLT]
      refine loop_i ?_
      simp only [go_sem, Nat.reduceEqDiff, reduceIte, Nat.reduceAdd, Nat.reduceMul, Nat.reduceLeDiff, Nat.reduceLT]
      refine cond_i (fun hb2 => ?_) (fun hb2 => ?_)
      · replace h := ifT (c := (decide (p0_0 < ((List.length a0.agents : Nat) : Int)))) hb2 h
        simp only [go_sem, Nat.reduceEqDiff, reduceIte, Nat.reduceAdd, Nat.reduceMul, Nat.reduceLeDiff, Nat.reduceLT]
        refine seq_go ?_
        simp only [go_sem, Nat.reduceEqDiff, reduceIte, Nat.reduceAdd, Nat.reduceMul, Nat.reduceLeDiff, Nat.reduceLT]
        obtain ⟨v6005, hv6005, h⟩ := bindE h
        refine idx_m hv6005 (Agent.ds_len _) ?_
        simp only [go_sem, Nat.reduceEqDiff, reduceIte, Nat.reduceAdd, Nat.reduceMul, Nat.reduceLeDiff, Nat.reduceLT]
        obtain ⟨v6011, hv6011, h⟩ := bindE h
        refine idx_m hv6011 (Agent.ds_len _) ?_
        simp only [go_sem, Nat.reduceEqDiff, reduceIte, Nat.reduceAdd, Nat.reduceMul, Nat.reduceLeDiff, Nat.reduceLT]
        obtain ⟨v6012, hv6012, h⟩ := bindE h
        refine call_i (s_l11SameAgent_ok _ _ _ hv6012) ?_
        simp only [go_sem, Nat.reduceEqDiff, reduceIte, Nat.reduceAdd, Nat.reduceMul, Nat.reduceLeDiff, Nat.reduceLT]
        refine cond_i (fun hb3 => ?_) (fun hb3 => ?_)
        · replace h := ifT (c := (!v6012)) hb3 h
          simp only [go_sem, Nat.reduceEqDiff, reduceIte, Nat.reduceAdd, Nat.reduceMul, Nat.reduceLeDiff, Nat.reduceLT]
          obtain rfl := Option.some.inj h
          simp only [go_sem, Nat.reduceEqDiff, reduceIte, Nat.reduceAdd, Nat.reduceMul, Nat.reduceLeDiff, Nat.reduceLT]
        · replace h := ifF (c := (!v6012)) hb3 h
          simp only [go_sem, Nat.reduceEqDiff, reduceIte, Nat.reduceAdd, Nat.reduceMul, Nat.reduceLeDiff, Nat.reduceLT]
          refine seq_go ?_
          simp only [go_sem, Nat.reduceEqDiff, reduceIte, Nat.reduceAdd, Nat.reduceMul, Nat.reduceLeDiff, Nat.reduceLT]
          have hj := posF_to rfl rfl (ih0 a0 a1 (IntKind.i64.wrap (p0_0 + 1)) _ h)
          refine lp_to hj (.one ⟨_, .done _, [], [], ?_⟩)
          clear hj
          simp only [go_sem, Nat.reduceEqDiff, reduceIte, Nat.reduceAdd, Nat.reduceMul, Nat.reduceLeDiff, Nat.reduceLT]
      · replace h := ifF (c := (decide (p0_0 < ((List.length a0.agents : Nat) : Int)))) hb2 h
        simp only [go_sem, Nat.reduceEqDiff, reduceIte, Nat.reduceAdd, Nat.reduceMul, Nat.reduceLeDiff, Nat.reduceLT]
        refine seq_go ?_
        simp only [go_sem, Nat.reduceEqDiff, reduceIte, Nat.reduceAdd, Nat.reduceMul, Nat.reduceLeDiff, Nat.reduceLT]
        obtain rfl := Option.some.inj h
        simp only [go_sem, Nat.reduceEqDiff, reduceIte, Nat.reduceAdd, Nat.reduceMul, Nat.reduceLeDiff, Nat.reduceLT]
theorem s_l11Same_l1_ok (n : Nat) : (∀ (a0 : Net) (a1 : Net) (p0_0 : Int) (r : Bool), s_l11Same_l1 n a0 a1 p0_0 = some r → posF Try.prog Try.f182 [1, 1, 0, 1, 0] (.bool r) ⟨[(0, .rop [.ro (List.map Agent.ds a0.agents)] 0), (1, .rop [.ro (List.map Agent.ds a1.agents)] 0), (5, .int .i64 p0_0)], [], []⟩) := (s_l11Same_l1_all n)

theorem s_l11Same_ok (a0 : Net) (a1 : Net) (r : Bool) (h : s_l11Same a0 a1 = some r) : AC Try.prog 182 [.rop (Net.avs a0) 0, .rop (Net.avs a1) 0] (.bool r) := by
  unfold s_l11Same at h
  refine ac_fn mixed Try.func182 rfl rfl rfl (by kernel_rfl) (by kernel_rfl) ?_
  simp only [go_sem, Nat.reduceEqDiff, reduceIte, Nat.reduceAdd, Nat.reduceMul, Nat.reduceLeDiff, Nat.reduceLT]
  refine cond_i (fun hb1 => ?_) (fun hb1 => ?_)
  · replace h := ifT (c := (!decide (((List.length a0.agents : Nat) : Int) = ((List.length a1.agents : Nat) : Int)))) hb1 h
    simp only [go_sem, Nat.reduceEqDiff, reduceIte, Nat.reduceAdd, Nat.reduceMul, Nat.reduceLeDiff, Nat.reduceLT]
    obtain rfl := Option.some.inj h
    simp only [go_sem, Nat.reduceEqDiff, reduceIte, Nat.reduceAdd, Nat.reduceMul, Nat.reduceLeDiff, Nat.reduceLT]
  · replace h := ifF (c := (!decide (((List.length a0.agents : Nat) : Int) = ((List.length a1.agents : Nat) : Int)))) hb1 h
    simp only [go_sem, Nat.reduceEqDiff, reduceIte, Nat.reduceAdd, Nat.reduceMul, Nat.reduceLeDiff, Nat.reduceLT]
    refine seq_go ?_
    simp only [go_sem, Nat.reduceEqDiff, reduceIte, Nat.reduceAdd, Nat.reduceMul, Nat.reduceLeDiff, Nat.reduceLT]
    have hj := posF_to rfl rfl (s_l11Same_l1_ok fuel a0 a1 0 _ h)
    refine loop_to hj (.one ⟨_, .done _, [], [], ?_⟩)
    clear hj
    simp only [go_sem, Nat.reduceEqDiff, reduceIte, Nat.reduceAdd, Nat.reduceMul, Nat.reduceLeDiff, Nat.reduceLT]
theorem s_l34SameNets_l1_all (n : Nat) : (∀ (a0 : List Net) (a1 : List Net) (p0_0 : Int) (r : Bool), s_l34SameNets_l1 n a0 a1 p0_0 = some r → posF Try.prog Try.f181 [1, 1, 0, 1, 0] (.bool r) ⟨[(0, .ro (List.map Net.ds a0)), (1, .ro (List.map Net.ds a1)), (5, .int .i64 p0_0)], [], []⟩) := by
  induction n with
  | zero => exact ((fun _ _ _ _ h => by rw [s_l34SameNets_l1] at h; cases h))
  | succ n ih =>
    have ih0 := ih
    · intro a0 a1 p0_0 r h
      rw [s_l34SameNets_l1] at h
      refine posF_of rfl rfl ?_
      simp only [go_sem, Nat.reduceEqDiff, reduceIte, Nat.reduceAdd, Nat.reduceMul, Nat.reduceLeDiff, Nat.reduceLT]
      refine loop_i ?_
      simp only [go_sem, Nat.reduceEqDiff, reduceIte, Nat.reduceAdd, Nat.reduceMul, Nat.reduceLeDiff, Nat.reduceLT]
      refine cond_i (fun hb2 => ?_) (fun hb2 => ?_)
      · replace h := ifT (c := (decide (p0_0 < ((List.length a0 : Nat) : Int)))) hb2 h
        simp only [go_sem, Nat.reduceEqDiff, reduceIte, Nat.reduceAdd, Nat.reduceMul, Nat.reduceLeDiff, Nat.reduceLT]
        refine seq_go ?_
        simp only [go_sem, Nat.reduceEqDiff, reduceIte, Nat.reduceAdd, Nat.reduceMul, Nat.reduceLeDiff, Nat.reduceLT]
        obtain ⟨v6002, hv6002, h⟩ := bindE h
        refine idx_m hv6002 (Net.ds_len _) ?_
        simp only [go_sem, Nat.reduceEqDiff, reduceIte, Nat.reduceAdd, Nat.reduceMul, Nat.reduceLeDiff, Nat.reduceLT]
        obtain ⟨v6005, hv6005, h⟩ := bindE h
        refine idx_m hv6005 (Net.ds_len _) ?_
        simp only [go_sem, Nat.reduceEqDiff, reduceIte, Nat.reduceAdd, Nat.reduceMul, Nat.reduceLeDiff, Nat.reduceLT]
        obtain ⟨v6006, hv6006, h⟩ := bindE h
        refine call_i (s_l11Same_ok _ _ _ hv6006) ?_
        simp only [go_sem, Nat.reduceEqDiff, reduceIte, Nat.reduceAdd, Nat.reduceMul, Nat.reduceLeDiff, Nat.reduceLT]
        refine cond_i (fun hb3 => ?_) (fun hb3 => ?_)
        · replace h := ifT (c := (!v6006)) hb3 h
          simp only [go_sem, Nat.reduceEqDiff, reduceIte, Nat.reduceAdd, Nat.reduceMul, Nat.reduceLeDiff, Nat.reduceLT]
          obtain rfl := Option.some.inj h
          simp only [go_sem, Nat.reduceEqDiff, reduceIte, Nat.reduceAdd, Nat.reduceMul, Nat.reduceLeDiff, Nat.reduceLT]
        · replace h := ifF (c := (!v6006)) hb3 h
          simp only [go_sem, Nat.reduceEqDiff, reduceIte, Nat.reduceAdd, Nat.reduceMul, Nat.reduceLeDiff, Nat.reduceLT]
          refine seq_go ?_
          simp only [go_sem, Nat.reduceEqDiff, reduceIte, Nat.reduceAdd, Nat.reduceMul, Nat.reduceLeDiff, Nat.reduceLT]
          have hj := posF_to rfl rfl (ih0 a0 a1 (IntKind.i64.wrap (p0_0 + 1)) _ h)
          refine lp_to hj (.one ⟨_, .done _, [], [], ?_⟩)
          clear hj
          simp only [go_sem, Nat.reduceEqDiff, reduceIte, Nat.reduceAdd, Nat.reduceMul, Nat.reduceLeDiff, Nat.reduceLT]
      · replace h := ifF (c := (decide (p0_0 < ((List.length a0 : Nat) : Int)))) hb2 h
        simp only [go_sem, Nat.reduceEqDiff, reduceIte, Nat.reduceAdd, Nat.reduceMul, Nat.reduceLeDiff, Nat.reduceLT]
        refine seq_go ?_
        simp only [go_sem, Nat.reduceEqDiff, reduceIte, Nat.reduceAdd, Nat.reduceMul, Nat.reduceLeDiff, Nat.reduceLT]
        obtain rfl := Option.some.inj h
        simp only [go_sem, Nat.reduceEqDiff, reduceIte, Nat.reduceAdd, Nat.reduceMul, Nat.reduceLeDiff, Nat.reduceLT]
theorem s_l34SameNets_l1_ok (n : Nat) : (∀ (a0 : List Net) (a1 : List Net) (p0_0 : Int) (r : Bool), s_l34SameNets_l1 n a0 a1 p0_0 = some r → posF Try.prog Try.f181 [1, 1, 0, 1, 0] (.bool r) ⟨[(0, .ro (List.map Net.ds a0)), (1, .ro (List.map Net.ds a1)), (5, .int .i64 p0_0)], [], []⟩) := (s_l34SameNets_l1_all n)

theorem s_l34SameNets_ok (a0 : List Net) (a1 : List Net) (r : Bool) (h : s_l34SameNets a0 a1 = some r) : AC Try.prog 181 [.ro (List.map Net.ds a0), .ro (List.map Net.ds a1)] (.bool r) := by
  unfold s_l34SameNets at h
  refine ac_fn mixed Try.func181 rfl rfl rfl (by kernel_rfl) (by kernel_rfl) ?_
  simp only [go_sem, Nat.reduceEqDiff, reduceIte, Nat.reduceAdd, Nat.reduceMul, Nat.reduceLeDiff, Nat.reduceLT]
  refine cond_i (fun hb1 => ?_) (fun hb1 => ?_)
  · replace h := ifT (c := (!decide (((List.length a0 : Nat) : Int) = ((List.length a1 : Nat) : Int)))) hb1 h
    simp only [go_sem, Nat.reduceEqDiff, reduceIte, Nat.reduceAdd, Nat.reduceMul, Nat.reduceLeDiff, Nat.reduceLT]
    obtain rfl := Option.some.inj h
    simp only [go_sem, Nat.reduceEqDiff, reduceIte, Nat.reduceAdd, Nat.reduceMul, Nat.reduceLeDiff, Nat.reduceLT]
  · replace h := ifF (c := (!decide (((List.length a0 : Nat) : Int) = ((List.length a1 : Nat) : Int)))) hb1 h
    simp only [go_sem, Nat.reduceEqDiff, reduceIte, Nat.reduceAdd, Nat.reduceMul, Nat.reduceLeDiff, Nat.reduceLT]
    refine seq_go ?_
    simp only [go_sem, Nat.reduceEqDiff, reduceIte, Nat.reduceAdd, Nat.reduceMul, Nat.reduceLeDiff, Nat.reduceLT]
    have hj := posF_to rfl rfl (s_l34SameNets_l1_ok fuel a0 a1 0 _ h)
    refine loop_to hj (.one ⟨_, .done _, [], [], ?_⟩)
    clear hj
    simp only [go_sem, Nat.reduceEqDiff, reduceIte, Nat.reduceAdd, Nat.reduceMul, Nat.reduceLeDiff, Nat.reduceLT]
theorem s_l34SameJob_ok (a0 : Job) (a1 : Job) (r : Bool) (h : s_l34SameJob a0 a1 = some r) : AC Try.prog 107 [.rop (Job.avs a0) 0, .rop (Job.avs a1) 0] (.bool r) := by
  unfold s_l34SameJob at h
  refine ac_fn mixed Try.func107 rfl rfl rfl (by kernel_rfl) (by kernel_rfl) ?_
  simp only [go_sem, Nat.reduceEqDiff, reduceIte, Nat.reduceAdd, Nat.reduceMul, Nat.reduceLeDiff, Nat.reduceLT]
  refine cond_i (fun hb1 => ?_) (fun hb1 => ?_)
  · replace h := ifT (c := (decide (a0.id = a1.id))) hb1 h
    simp only [go_sem, Nat.reduceEqDiff, reduceIte, Nat.reduceAdd, Nat.reduceMul, Nat.reduceLeDiff, Nat.reduceLT]
    refine cond_i (fun hb2 => ?_) (fun hb2 => ?_)
    · replace h := ifT (c := (decide (a0.weight = a1.weight))) hb2 h
      simp only [go_sem, Nat.reduceEqDiff, reduceIte, Nat.reduceAdd, Nat.reduceMul, Nat.reduceLeDiff, Nat.reduceLT]
      refine cond_i (fun hb3 => ?_) (fun hb3 => ?_)
      · replace h := ifT (c := (decide (a0.state = a1.state))) hb3 h
        simp only [go_sem, Nat.reduceEqDiff, reduceIte, Nat.reduceAdd, Nat.reduceMul, Nat.reduceLeDiff, Nat.reduceLT]
        refine cond_i (fun hb4 => ?_) (fun hb4 => ?_)
        · replace h := ifT (c := (decide (a0.code = a1.code))) hb4 h
          simp only [go_sem, Nat.reduceEqDiff, reduceIte, Nat.reduceAdd, Nat.reduceMul, Nat.reduceLeDiff, Nat.reduceLT]
          refine cond_i (fun hb5 => ?_) (fun hb5 => ?_)
          · replace h := ifT (c := (decide (a0.left = a1.left))) hb5 h
            simp only [go_sem, Nat.reduceEqDiff, reduceIte, Nat.reduceAdd, Nat.reduceMul, Nat.reduceLeDiff, Nat.reduceLT]
            refine cond_i (fun hb6 => ?_) (fun hb6 => ?_)
            · replace h := ifT (c := (decide (a0.slices = a1.slices))) hb6 h
              simp only [go_sem, Nat.reduceEqDiff, reduceIte, Nat.reduceAdd, Nat.reduceMul, Nat.reduceLeDiff, Nat.reduceLT]
              obtain ⟨v1073, hv1073, h⟩ := bindE h
              refine call_i (s_l00Same_ok _ _ _ hv1073) ?_
              simp only [go_sem, Nat.reduceEqDiff, reduceIte, Nat.reduceAdd, Nat.reduceMul, Nat.reduceLeDiff, Nat.reduceLT]
              refine cond_i (fun hb7 => ?_) (fun hb7 => ?_)
              · replace h := ifT (c := v1073) hb7 h
                simp only [go_sem, Nat.reduceEqDiff, reduceIte, Nat.reduceAdd, Nat.reduceMul, Nat.reduceLeDiff, Nat.reduceLT]
                obtain ⟨v1084, hv1084, h⟩ := bindE h
                refine call_i (s_l00Same_ok _ _ _ hv1084) ?_
                simp only [go_sem, Nat.reduceEqDiff, reduceIte, Nat.reduceAdd, Nat.reduceMul, Nat.reduceLeDiff, Nat.reduceLT]
                refine cond_i (fun hb8 => ?_) (fun hb8 => ?_)
                · replace h := ifT (c := v1084) hb8 h
                  simp only [go_sem, Nat.reduceEqDiff, reduceIte, Nat.reduceAdd, Nat.reduceMul, Nat.reduceLeDiff, Nat.reduceLT]
                  obtain ⟨v1095, hv1095, h⟩ := bindE h
                  refine call_i (s_l34SameNets_ok _ _ _ hv1095) ?_
                  simp only [go_sem, Nat.reduceEqDiff, reduceIte, Nat.reduceAdd, Nat.reduceMul, Nat.reduceLeDiff, Nat.reduceLT]
                  refine cond_i (fun hb9 => ?_) (fun hb9 => ?_)
                  · replace h := ifT (c := v1095) hb9 h
                    simp only [go_sem, Nat.reduceEqDiff, reduceIte, Nat.reduceAdd, Nat.reduceMul, Nat.reduceLeDiff, Nat.reduceLT]
                    obtain ⟨v1104, hv1104, h⟩ := bindE h
                    refine call_i (ac_sub (s_l11Same_ok _ _ _ hv1104) (.cons (.rop rfl) (.cons (.rop rfl) .nil))) ?_
                    simp only [go_sem, Nat.reduceEqDiff, reduceIte, Nat.reduceAdd, Nat.reduceMul, Nat.reduceLeDiff, Nat.reduceLT]
                    refine seq_go ?_
                    simp only [go_sem, Nat.reduceEqDiff, reduceIte, Nat.reduceAdd, Nat.reduceMul, Nat.reduceLeDiff, Nat.reduceLT]
                    obtain rfl := Option.some.inj h
                    simp only [go_sem, Nat.reduceEqDiff, reduceIte, Nat.reduceAdd, Nat.reduceMul, Nat.reduceLeDiff, Nat.reduceLT]
                  · replace h := ifF (c := v1095) hb9 h
                    simp only [go_sem, Nat.reduceEqDiff, reduceIte, Nat.reduceAdd, Nat.reduceMul, Nat.reduceLeDiff, Nat.reduceLT]
                    refine seq_go ?_
                    simp only [go_sem, Nat.reduceEqDiff, reduceIte, Nat.reduceAdd, Nat.reduceMul, Nat.reduceLeDiff, Nat.reduceLT]
                    obtain rfl := Option.some.inj h
                    simp only [go_sem, Nat.reduceEqDiff, reduceIte, Nat.reduceAdd, Nat.reduceMul, Nat.reduceLeDiff, Nat.reduceLT]
                · replace h := ifF (c := v1084) hb8 h
                  simp only [go_sem, Nat.reduceEqDiff, reduceIte, Nat.reduceAdd, Nat.reduceMul, Nat.reduceLeDiff, Nat.reduceLT]
                  refine seq_go ?_
                  simp only [go_sem, Nat.reduceEqDiff, reduceIte, Nat.reduceAdd, Nat.reduceMul, Nat.reduceLeDiff, Nat.reduceLT]
                  obtain rfl := Option.some.inj h
                  simp only [go_sem, Nat.reduceEqDiff, reduceIte, Nat.reduceAdd, Nat.reduceMul, Nat.reduceLeDiff, Nat.reduceLT]
              · replace h := ifF (c := v1073) hb7 h
                simp only [go_sem, Nat.reduceEqDiff, reduceIte, Nat.reduceAdd, Nat.reduceMul, Nat.reduceLeDiff, Nat.reduceLT]
                refine seq_go ?_
                simp only [go_sem, Nat.reduceEqDiff, reduceIte, Nat.reduceAdd, Nat.reduceMul, Nat.reduceLeDiff, Nat.reduceLT]
                obtain rfl := Option.some.inj h
                simp only [go_sem, Nat.reduceEqDiff, reduceIte, Nat.reduceAdd, Nat.reduceMul, Nat.reduceLeDiff, Nat.reduceLT]
            · replace h := ifF (c := (decide (a0.slices = a1.slices))) hb6 h
              simp only [go_sem, Nat.reduceEqDiff, reduceIte, Nat.reduceAdd, Nat.reduceMul, Nat.reduceLeDiff, Nat.reduceLT]
              refine seq_go ?_
              simp only [go_sem, Nat.reduceEqDiff, reduceIte, Nat.reduceAdd, Nat.reduceMul, Nat.reduceLeDiff, Nat.reduceLT]
              obtain rfl := Option.some.inj h
              simp only [go_sem, Nat.reduceEqDiff, reduceIte, Nat.reduceAdd, Nat.reduceMul, Nat.reduceLeDiff, Nat.reduceLT]
          · replace h := ifF (c := (decide (a0.left = a1.left))) hb5 h
            simp only [go_sem, Nat.reduceEqDiff, reduceIte, Nat.reduceAdd, Nat.reduceMul, Nat.reduceLeDiff, Nat.reduceLT]
            refine seq_go ?_
            simp only [go_sem, Nat.reduceEqDiff, reduceIte, Nat.reduceAdd, Nat.reduceMul, Nat.reduceLeDiff, Nat.reduceLT]
            obtain rfl := Option.some.inj h
            simp only [go_sem, Nat.reduceEqDiff, reduceIte, Nat.reduceAdd, Nat.reduceMul, Nat.reduceLeDiff, Nat.reduceLT]
        · replace h := ifF (c := (decide (a0.code = a1.code))) hb4 h
          simp only [go_sem, Nat.reduceEqDiff, reduceIte, Nat.reduceAdd, Nat.reduceMul, Nat.reduceLeDiff, Nat.reduceLT]
          refine seq_go ?_
          simp only [go_sem, Nat.reduceEqDiff, reduceIte, Nat.reduceAdd, Nat.reduceMul, Nat.reduceLeDiff, Nat.reduceLT]
          obtain rfl := Option.some.inj h
          simp only [go_sem, Nat.reduceEqDiff, reduceIte, Nat.reduceAdd, Nat.reduceMul, Nat.reduceLeDiff, Nat.reduceLT]
      · replace h := ifF (c := (decide (a0.state = a1.state))) hb3 h
        simp only [go_sem, Nat.reduceEqDiff, reduceIte, Nat.reduceAdd, Nat.reduceMul, Nat.reduceLeDiff, Nat.reduceLT]
        refine seq_go ?_
        simp only [go_sem, Nat.reduceEqDiff, reduceIte, Nat.reduceAdd, Nat.reduceMul, Nat.reduceLeDiff, Nat.reduceLT]
        obtain rfl := Option.some.inj h
        simp only [go_sem, Nat.reduceEqDiff, reduceIte, Nat.reduceAdd, Nat.reduceMul, Nat.reduceLeDiff, Nat.reduceLT]
    · replace h := ifF (c := (decide (a0.weight = a1.weight))) hb2 h
      simp only [go_sem, Nat.reduceEqDiff, reduceIte, Nat.reduceAdd, Nat.reduceMul, Nat.reduceLeDiff, Nat.reduceLT]
      refine seq_go ?_
      simp only [go_sem, Nat.reduceEqDiff, reduceIte, Nat.reduceAdd, Nat.reduceMul, Nat.reduceLeDiff, Nat.reduceLT]
      obtain rfl := Option.some.inj h
      simp only [go_sem, Nat.reduceEqDiff, reduceIte, Nat.reduceAdd, Nat.reduceMul, Nat.reduceLeDiff, Nat.reduceLT]
  · replace h := ifF (c := (decide (a0.id = a1.id))) hb1 h
    simp only [go_sem, Nat.reduceEqDiff, reduceIte, Nat.reduceAdd, Nat.reduceMul, Nat.reduceLeDiff, Nat.reduceLT]
    refine seq_go ?_
    simp only [go_sem, Nat.reduceEqDiff, reduceIte, Nat.reduceAdd, Nat.reduceMul, Nat.reduceLeDiff, Nat.reduceLT]
    obtain rfl := Option.some.inj h
    simp only [go_sem, Nat.reduceEqDiff, reduceIte, Nat.reduceAdd, Nat.reduceMul, Nat.reduceLeDiff, Nat.reduceLT]
theorem s_SameQueue_l3_all (n : Nat) : (∀ (a0 : Queue) (a1 : Queue) (p2_0 : Int) (r : Bool), s_SameQueue_l3 n a0 a1 p2_0 = some r → posF Try.prog Try.f46 [1, 1, 0, 1, 0] (.bool r) ⟨[(2, .box 1000002500 0), (3, .box 1000002501 0), (5, .int .i64 p2_0)], [], [(1000002500, some [.int .i64 a0.quantum, .int .i64 a0.nextId, .int .i64 a0.turn, .ro (List.map Job.ds a0.jobs)]), (1000002501, some [.int .i64 a1.quantum, .int .i64 a1.nextId, .int .i64 a1.turn, .ro (List.map Job.ds a1.jobs)])]⟩) := by
  induction n with
  | zero => exact ((fun _ _ _ _ h => by rw [s_SameQueue_l3] at h; cases h))
  | succ n ih =>
    have ih0 := ih
    · intro a0 a1 p2_0 r h
      rw [s_SameQueue_l3] at h
      refine posF_of rfl rfl ?_
      simp only [go_sem, Nat.reduceEqDiff, reduceIte, Nat.reduceAdd, Nat.reduceMul, Nat.reduceLeDiff, Nat.reduceLT]
      refine loop_i ?_
      simp only [go_sem, Nat.reduceEqDiff, reduceIte, Nat.reduceAdd, Nat.reduceMul, Nat.reduceLeDiff, Nat.reduceLT]
      refine cond_i (fun hb5 => ?_) (fun hb5 => ?_)
      · replace h := ifT (c := (decide (p2_0 < ((List.length a0.jobs : Nat) : Int)))) hb5 h
        simp only [go_sem, Nat.reduceEqDiff, reduceIte, Nat.reduceAdd, Nat.reduceMul, Nat.reduceLeDiff, Nat.reduceLT]
        refine seq_go ?_
        simp only [go_sem, Nat.reduceEqDiff, reduceIte, Nat.reduceAdd, Nat.reduceMul, Nat.reduceLeDiff, Nat.reduceLT]
        obtain ⟨v6003, hv6003, h⟩ := bindE h
        refine idx_m hv6003 (Job.ds_len _) ?_
        simp only [go_sem, Nat.reduceEqDiff, reduceIte, Nat.reduceAdd, Nat.reduceMul, Nat.reduceLeDiff, Nat.reduceLT]
        obtain ⟨v6007, hv6007, h⟩ := bindE h
        refine idx_m hv6007 (Job.ds_len _) ?_
        simp only [go_sem, Nat.reduceEqDiff, reduceIte, Nat.reduceAdd, Nat.reduceMul, Nat.reduceLeDiff, Nat.reduceLT]
        obtain ⟨v6008, hv6008, h⟩ := bindE h
        refine call_i (s_l34SameJob_ok _ _ _ hv6008) ?_
        simp only [go_sem, Nat.reduceEqDiff, reduceIte, Nat.reduceAdd, Nat.reduceMul, Nat.reduceLeDiff, Nat.reduceLT]
        refine cond_i (fun hb6 => ?_) (fun hb6 => ?_)
        · replace h := ifT (c := (!v6008)) hb6 h
          simp only [go_sem, Nat.reduceEqDiff, reduceIte, Nat.reduceAdd, Nat.reduceMul, Nat.reduceLeDiff, Nat.reduceLT]
          obtain rfl := Option.some.inj h
          simp only [go_sem, Nat.reduceEqDiff, reduceIte, Nat.reduceAdd, Nat.reduceMul, Nat.reduceLeDiff, Nat.reduceLT]
        · replace h := ifF (c := (!v6008)) hb6 h
          simp only [go_sem, Nat.reduceEqDiff, reduceIte, Nat.reduceAdd, Nat.reduceMul, Nat.reduceLeDiff, Nat.reduceLT]
          refine seq_go ?_
          simp only [go_sem, Nat.reduceEqDiff, reduceIte, Nat.reduceAdd, Nat.reduceMul, Nat.reduceLeDiff, Nat.reduceLT]
          have hj := posF_to rfl rfl (ih0 a0 a1 (IntKind.i64.wrap (p2_0 + 1)) _ h)
          refine lp_to hj (.one ⟨_, .done _, [], [(1000002500, 1000002500), (1000002501, 1000002501)], ?_⟩)
          clear hj
          simp only [go_sem, Nat.reduceEqDiff, reduceIte, Nat.reduceAdd, Nat.reduceMul, Nat.reduceLeDiff, Nat.reduceLT]
      · replace h := ifF (c := (decide (p2_0 < ((List.length a0.jobs : Nat) : Int)))) hb5 h
        simp only [go_sem, Nat.reduceEqDiff, reduceIte, Nat.reduceAdd, Nat.reduceMul, Nat.reduceLeDiff, Nat.reduceLT]
        refine seq_go ?_
        simp only [go_sem, Nat.reduceEqDiff, reduceIte, Nat.reduceAdd, Nat.reduceMul, Nat.reduceLeDiff, Nat.reduceLT]
        obtain rfl := Option.some.inj h
        simp only [go_sem, Nat.reduceEqDiff, reduceIte, Nat.reduceAdd, Nat.reduceMul, Nat.reduceLeDiff, Nat.reduceLT]
theorem s_SameQueue_l3_ok (n : Nat) : (∀ (a0 : Queue) (a1 : Queue) (p2_0 : Int) (r : Bool), s_SameQueue_l3 n a0 a1 p2_0 = some r → posF Try.prog Try.f46 [1, 1, 0, 1, 0] (.bool r) ⟨[(2, .box 1000002500 0), (3, .box 1000002501 0), (5, .int .i64 p2_0)], [], [(1000002500, some [.int .i64 a0.quantum, .int .i64 a0.nextId, .int .i64 a0.turn, .ro (List.map Job.ds a0.jobs)]), (1000002501, some [.int .i64 a1.quantum, .int .i64 a1.nextId, .int .i64 a1.turn, .ro (List.map Job.ds a1.jobs)])]⟩) := (s_SameQueue_l3_all n)

theorem s_SameQueue_j1_ok (a0 : Queue) (a1 : Queue) (p0_0 : Bool) (r : Bool) (h : s_SameQueue_j1 a0 a1 p0_0 = some r) : posF Try.prog Try.f46 [1, 0, 1] (.bool r) ⟨[(2, .box 1000000500 0), (3, .box 1000000501 0), (33, .bool p0_0)], [], [(1000000500, some [.int .i64 a0.quantum, .int .i64 a0.nextId, .int .i64 a0.turn, .ro (List.map Job.ds a0.jobs)]), (1000000501, some [.int .i64 a1.quantum, .int .i64 a1.nextId, .int .i64 a1.turn, .ro (List.map Job.ds a1.jobs)])]⟩ := by
  unfold s_SameQueue_j1 at h
  refine posF_of rfl rfl ?_
  simp only [go_sem, Nat.reduceEqDiff, reduceIte, Nat.reduceAdd, Nat.reduceMul, Nat.reduceLeDiff, Nat.reduceLT]
  refine cond_i (fun hb4 => ?_) (fun hb4 => ?_)
  · replace h := ifT (c := p0_0) hb4 h
    simp only [go_sem, Nat.reduceEqDiff, reduceIte, Nat.reduceAdd, Nat.reduceMul, Nat.reduceLeDiff, Nat.reduceLT]
    obtain rfl := Option.some.inj h
    simp only [go_sem, Nat.reduceEqDiff, reduceIte, Nat.reduceAdd, Nat.reduceMul, Nat.reduceLeDiff, Nat.reduceLT]
  · replace h := ifF (c := p0_0) hb4 h
    simp only [go_sem, Nat.reduceEqDiff, reduceIte, Nat.reduceAdd, Nat.reduceMul, Nat.reduceLeDiff, Nat.reduceLT]
    refine seq_go ?_
    simp only [go_sem, Nat.reduceEqDiff, reduceIte, Nat.reduceAdd, Nat.reduceMul, Nat.reduceLeDiff, Nat.reduceLT]
    have hj := posF_to rfl rfl (s_SameQueue_l3_ok fuel a0 a1 0 _ h)
    refine loop_to hj (.one ⟨_, .done _, [], [(1000002500, 1000000500), (1000002501, 1000000501)], ?_⟩)
    clear hj
    simp only [go_sem, Nat.reduceEqDiff, reduceIte, Nat.reduceAdd, Nat.reduceMul, Nat.reduceLeDiff, Nat.reduceLT]
theorem s_SameQueue_ok (a0 : Queue) (a1 : Queue) (r : Bool) (h : s_SameQueue a0 a1 = some r) : AC Try.prog 46 [.agg (Queue.avs a0), .agg (Queue.avs a1)] (.bool r) := by
  unfold s_SameQueue at h
  refine ac_fn mixed Try.func46 rfl rfl rfl (by kernel_rfl) (by kernel_rfl) ?_
  simp only [go_sem, Nat.reduceEqDiff, reduceIte, Nat.reduceAdd, Nat.reduceMul, Nat.reduceLeDiff, Nat.reduceLT]
  refine cond_i (fun hb1 => ?_) (fun hb1 => ?_)
  · replace h := ifT (c := (!decide (a0.quantum = a1.quantum))) hb1 h
    simp only [go_sem, Nat.reduceEqDiff, reduceIte, Nat.reduceAdd, Nat.reduceMul, Nat.reduceLeDiff, Nat.reduceLT]
    have hj := posF_to rfl rfl (s_SameQueue_j1_ok a0 a1 true _ h)
    refine seq_to hj (.one ⟨_, .done _, [], [(1000000500, 0), (1000000501, 1)], ?_⟩)
    clear hj
    simp only [go_sem, Nat.reduceEqDiff, reduceIte, Nat.reduceAdd, Nat.reduceMul, Nat.reduceLeDiff, Nat.reduceLT]
  · replace h := ifF (c := (!decide (a0.quantum = a1.quantum))) hb1 h
    simp only [go_sem, Nat.reduceEqDiff, reduceIte, Nat.reduceAdd, Nat.reduceMul, Nat.reduceLeDiff, Nat.reduceLT]
    refine cond_i (fun hb2 => ?_) (fun hb2 => ?_)
    · replace h := ifT (c := (!decide (a0.nextId = a1.nextId))) hb2 h
      simp only [go_sem, Nat.reduceEqDiff, reduceIte, Nat.reduceAdd, Nat.reduceMul, Nat.reduceLeDiff, Nat.reduceLT]
      have hj := posF_to rfl rfl (s_SameQueue_j1_ok a0 a1 true _ h)
      refine seq_to hj (.one ⟨_, .done _, [], [(1000000500, 0), (1000000501, 1)], ?_⟩)
      clear hj
      simp only [go_sem, Nat.reduceEqDiff, reduceIte, Nat.reduceAdd, Nat.reduceMul, Nat.reduceLeDiff, Nat.reduceLT]
    · replace h := ifF (c := (!decide (a0.nextId = a1.nextId))) hb2 h
      simp only [go_sem, Nat.reduceEqDiff, reduceIte, Nat.reduceAdd, Nat.reduceMul, Nat.reduceLeDiff, Nat.reduceLT]
      refine cond_i (fun hb3 => ?_) (fun hb3 => ?_)
      · replace h := ifT (c := (!decide (a0.turn = a1.turn))) hb3 h
        simp only [go_sem, Nat.reduceEqDiff, reduceIte, Nat.reduceAdd, Nat.reduceMul, Nat.reduceLeDiff, Nat.reduceLT]
        have hj := posF_to rfl rfl (s_SameQueue_j1_ok a0 a1 true _ h)
        refine seq_to hj (.one ⟨_, .done _, [], [(1000000500, 0), (1000000501, 1)], ?_⟩)
        clear hj
        simp only [go_sem, Nat.reduceEqDiff, reduceIte, Nat.reduceAdd, Nat.reduceMul, Nat.reduceLeDiff, Nat.reduceLT]
      · replace h := ifF (c := (!decide (a0.turn = a1.turn))) hb3 h
        simp only [go_sem, Nat.reduceEqDiff, reduceIte, Nat.reduceAdd, Nat.reduceMul, Nat.reduceLeDiff, Nat.reduceLT]
        have hj := posF_to rfl rfl (s_SameQueue_j1_ok a0 a1 (!decide (((List.length a0.jobs : Nat) : Int) = ((List.length a1.jobs : Nat) : Int))) _ h)
        refine seq_to hj (.one ⟨_, .done _, [], [(1000000500, 0), (1000000501, 1)], ?_⟩)
        clear hj
        simp only [go_sem, Nat.reduceEqDiff, reduceIte, Nat.reduceAdd, Nat.reduceMul, Nat.reduceLeDiff, Nat.reduceLT]
theorem l_toPort_ok (a0 : Port) (r : Port) (h : l_toPort a0 = some r) : AC Try.prog 267 [.agg (Port.avs a0)] (.agg (Port.rv r)) := by
  unfold l_toPort at h
  refine ac_fn mixed Try.func267 rfl rfl rfl (by kernel_rfl) (by kernel_rfl) ?_
  simp only [go_sem, Nat.reduceEqDiff, reduceIte, Nat.reduceAdd, Nat.reduceMul, Nat.reduceLeDiff, Nat.reduceLT]
  obtain rfl := Option.some.inj h
  simp only [go_sem, Nat.reduceEqDiff, reduceIte, Nat.reduceAdd, Nat.reduceMul, Nat.reduceLeDiff, Nat.reduceLT]
theorem l_toPortS_l2_all (n : Nat) : (∀ (a0 : List Port) (p1_0 : List Port) (p1_1 : Int) (r : (List Port)), l_toPortS_l2 n a0 p1_0 p1_1 = some r → posF Try.prog Try.f265 [1, 1, 0, 1, 0] (.ow (some (295, 2)) (List.map Port.ds r)) ⟨[(0, .ro (List.map Port.ds a0)), (3, .own 1000001000), (4, .int .i64 p1_1)], [(1000001000, some ⟨List.map Port.ds p1_0, some (295, 2)⟩)], []⟩) := by
  induction n with
  | zero => exact ((fun _ _ _ _ h => by rw [l_toPortS_l2] at h; cases h))
  | succ n ih =>
    have ih0 := ih
    · intro a0 p1_0 p1_1 r h
      rw [l_toPortS_l2] at h
      refine posF_of rfl rfl ?_
      simp only [go_sem, Nat.reduceEqDiff, reduceIte, Nat.reduceAdd, Nat.reduceMul, Nat.reduceLeDiff, Nat.reduceLT]
      refine loop_i ?_
      simp only [go_sem, Nat.reduceEqDiff, reduceIte, Nat.reduceAdd, Nat.reduceMul, Nat.reduceLeDiff, Nat.reduceLT]
      refine cond_i (fun hb1 => ?_) (fun hb1 => ?_)
      · replace h := ifT (c := (decide (p1_1 < ((List.length a0 : Nat) : Int)))) hb1 h
        simp only [go_sem, Nat.reduceEqDiff, reduceIte, Nat.reduceAdd, Nat.reduceMul, Nat.reduceLeDiff, Nat.reduceLT]
        refine seq_go ?_
        simp only [go_sem, Nat.reduceEqDiff, reduceIte, Nat.reduceAdd, Nat.reduceMul, Nat.reduceLeDiff, Nat.reduceLT]
        obtain ⟨v5004, hv5004, h⟩ := bindE h
        refine idx_m hv5004 (Port.ds_len _) ?_
        simp only [go_sem, Nat.reduceEqDiff, reduceIte, Nat.reduceAdd, Nat.reduceMul, Nat.reduceLeDiff, Nat.reduceLT]
        obtain ⟨v5006, hv5006, h⟩ := bindE h
        refine call_i (l_toPort_ok _ _ hv5006) ?_
        simp only [go_sem, Nat.reduceEqDiff, reduceIte, Nat.reduceAdd, Nat.reduceMul, Nat.reduceLeDiff, Nat.reduceLT]
        obtain ⟨v5007, hv5007, h⟩ := bindE h
        refine idx_m hv5007 (Port.ds_len _) ?_
        simp only [go_sem, Nat.reduceEqDiff, reduceIte, Nat.reduceAdd, Nat.reduceMul, Nat.reduceLeDiff, Nat.reduceLT]
        refine opt_i (row_m hv5007) ?_
        simp only [go_sem, Nat.reduceEqDiff, reduceIte, Nat.reduceAdd, Nat.reduceMul, Nat.reduceLeDiff, Nat.reduceLT]
        refine row_i (List.map Port.ds (set? p1_0 p1_1 v5006)) (by simp only [set?, List.map_set, go_sem, Port.ds_eq]) ?_
        simp only [go_sem, Nat.reduceEqDiff, reduceIte, Nat.reduceAdd, Nat.reduceMul, Nat.reduceLeDiff, Nat.reduceLT]
        refine seq_go ?_
        simp only [go_sem, Nat.reduceEqDiff, reduceIte, Nat.reduceAdd, Nat.reduceMul, Nat.reduceLeDiff, Nat.reduceLT]
        have hj := posF_to rfl rfl (ih0 a0 (set? p1_0 p1_1 v5006) (IntKind.i64.wrap (p1_1 + 1)) _ h)
        refine lp_to hj (.one ⟨_, .done _, [(1000001000, 1000001000)], [], ?_⟩)
        clear hj
        simp only [go_sem, Nat.reduceEqDiff, reduceIte, Nat.reduceAdd, Nat.reduceMul, Nat.reduceLeDiff, Nat.reduceLT]
      · replace h := ifF (c := (decide (p1_1 < ((List.length a0 : Nat) : Int)))) hb1 h
        simp only [go_sem, Nat.reduceEqDiff, reduceIte, Nat.reduceAdd, Nat.reduceMul, Nat.reduceLeDiff, Nat.reduceLT]
        refine seq_go ?_
        simp only [go_sem, Nat.reduceEqDiff, reduceIte, Nat.reduceAdd, Nat.reduceMul, Nat.reduceLeDiff, Nat.reduceLT]
        obtain rfl := Option.some.inj h
        simp only [go_sem, Nat.reduceEqDiff, reduceIte, Nat.reduceAdd, Nat.reduceMul, Nat.reduceLeDiff, Nat.reduceLT]
theorem l_toPortS_l2_ok (n : Nat) : (∀ (a0 : List Port) (p1_0 : List Port) (p1_1 : Int) (r : (List Port)), l_toPortS_l2 n a0 p1_0 p1_1 = some r → posF Try.prog Try.f265 [1, 1, 0, 1, 0] (.ow (some (295, 2)) (List.map Port.ds r)) ⟨[(0, .ro (List.map Port.ds a0)), (3, .own 1000001000), (4, .int .i64 p1_1)], [(1000001000, some ⟨List.map Port.ds p1_0, some (295, 2)⟩)], []⟩) := (l_toPortS_l2_all n)

theorem l_toPortS_ok (a0 : List Port) (r : (List Port)) (h : l_toPortS a0 = some r) : AC Try.prog 265 [.ro (List.map Port.ds a0)] (.ow (some (295, 2)) (List.map Port.ds r)) := by
  unfold l_toPortS at h
  refine ac_fn mixed Try.func265 rfl rfl rfl (by kernel_rfl) (by kernel_rfl) ?_
  simp only [go_sem, Nat.reduceEqDiff, reduceIte, Nat.reduceAdd, Nat.reduceMul, Nat.reduceLeDiff, Nat.reduceLT]
  obtain ⟨v1002, hv1002, h⟩ := bindE h
  obtain ⟨hv1002a, hv1002b, hv1002c⟩ := rep_some hv1002
  refine and_i (by refine ⟨?_, ?_, ?_⟩ <;> omega) ?_
  simp only [go_sem, Nat.reduceEqDiff, reduceIte, Nat.reduceAdd, Nat.reduceMul, Nat.reduceLeDiff, Nat.reduceLT]
  refine row_i (List.map Port.ds v1002) (by rw [← hv1002c]; simp only [List.map_replicate, go_sem, Port.ds_eq]) ?_
  simp only [go_sem, Nat.reduceEqDiff, reduceIte, Nat.reduceAdd, Nat.reduceMul, Nat.reduceLeDiff, Nat.reduceLT]
  have hj := posF_to rfl rfl (l_toPortS_l2_ok fuel a0 v1002 0 _ h)
  refine loop_to hj (.one ⟨_, .done _, [(1000001000, 16032)], [], ?_⟩)
  clear hj
  simp only [go_sem, Nat.reduceEqDiff, reduceIte, Nat.reduceAdd, Nat.reduceMul, Nat.reduceLeDiff, Nat.reduceLT]
theorem l_toAgent_ok (a0 : Agent) (r : Agent) (h : l_toAgent a0 = some r) : AC Try.prog 259 [.agg (Agent.avs a0)] (.agg (Agent.rv r)) := by
  unfold l_toAgent at h
  refine ac_fn mixed Try.func259 rfl rfl rfl (by kernel_rfl) (by kernel_rfl) ?_
  simp only [go_sem, Nat.reduceEqDiff, reduceIte, Nat.reduceAdd, Nat.reduceMul, Nat.reduceLeDiff, Nat.reduceLT]
  obtain ⟨v5002, hv5002, h⟩ := bindE h
  refine call_i (l_toInt64S_ok _ _ hv5002) ?_
  simp only [go_sem, Nat.reduceEqDiff, reduceIte, Nat.reduceAdd, Nat.reduceMul, Nat.reduceLeDiff, Nat.reduceLT]
  obtain ⟨v6002, hv6002, h⟩ := bindE h
  refine call_i (l_toPortS_ok _ _ hv6002) ?_
  simp only [go_sem, Nat.reduceEqDiff, reduceIte, Nat.reduceAdd, Nat.reduceMul, Nat.reduceLeDiff, Nat.reduceLT]
  obtain rfl := Option.some.inj h
  simp only [go_sem, Nat.reduceEqDiff, reduceIte, Nat.reduceAdd, Nat.reduceMul, Nat.reduceLeDiff, Nat.reduceLT]
theorem l_toAgentS_l2_all (n : Nat) : (∀ (a0 : List Agent) (p1_0 : List Agent) (p1_1 : Int) (r : (List Agent)), l_toAgentS_l2 n a0 p1_0 p1_1 = some r → posF Try.prog Try.f252 [1, 1, 0, 1, 0] (.ow (some (257, 5)) (List.map Agent.ds r)) ⟨[(0, .ro (List.map Agent.ds a0)), (3, .own 1000001000), (4, .int .i64 p1_1)], [(1000001000, some ⟨List.map Agent.ds p1_0, some (257, 5)⟩)], []⟩) := by
  induction n with
  | zero => exact ((fun _ _ _ _ h => by rw [l_toAgentS_l2] at h; cases h))
  | succ n ih =>
    have ih0 := ih
    · intro a0 p1_0 p1_1 r h
      rw [l_toAgentS_l2] at h
      refine posF_of rfl rfl ?_
      simp only [go_sem, Nat.reduceEqDiff, reduceIte, Nat.reduceAdd, Nat.reduceMul, Nat.reduceLeDiff, Nat.reduceLT]
      refine loop_i ?_
      simp only [go_sem, Nat.reduceEqDiff, reduceIte, Nat.reduceAdd, Nat.reduceMul, Nat.reduceLeDiff, Nat.reduceLT]
      refine cond_i (fun hb1 => ?_) (fun hb1 => ?_)
      · replace h := ifT (c := (decide (p1_1 < ((List.length a0 : Nat) : Int)))) hb1 h
        simp only [go_sem, Nat.reduceEqDiff, reduceIte, Nat.reduceAdd, Nat.reduceMul, Nat.reduceLeDiff, Nat.reduceLT]
        refine seq_go ?_
        simp only [go_sem, Nat.reduceEqDiff, reduceIte, Nat.reduceAdd, Nat.reduceMul, Nat.reduceLeDiff, Nat.reduceLT]
        obtain ⟨v5004, hv5004, h⟩ := bindE h
        refine idx_m hv5004 (Agent.ds_len _) ?_
        simp only [go_sem, Nat.reduceEqDiff, reduceIte, Nat.reduceAdd, Nat.reduceMul, Nat.reduceLeDiff, Nat.reduceLT]
        obtain ⟨v5006, hv5006, h⟩ := bindE h
        refine call_i (l_toAgent_ok _ _ hv5006) ?_
        simp only [go_sem, Nat.reduceEqDiff, reduceIte, Nat.reduceAdd, Nat.reduceMul, Nat.reduceLeDiff, Nat.reduceLT]
        obtain ⟨v5007, hv5007, h⟩ := bindE h
        refine idx_m hv5007 (Agent.ds_len _) ?_
        simp only [go_sem, Nat.reduceEqDiff, reduceIte, Nat.reduceAdd, Nat.reduceMul, Nat.reduceLeDiff, Nat.reduceLT]
        refine opt_i (row_m hv5007) ?_
        simp only [go_sem, Nat.reduceEqDiff, reduceIte, Nat.reduceAdd, Nat.reduceMul, Nat.reduceLeDiff, Nat.reduceLT]
        refine row_i (List.map Agent.ds (set? p1_0 p1_1 v5006)) (by simp only [set?, List.map_set, go_sem, Agent.ds_eq]) ?_
        simp only [go_sem, Nat.reduceEqDiff, reduceIte, Nat.reduceAdd, Nat.reduceMul, Nat.reduceLeDiff, Nat.reduceLT]
        refine seq_go ?_
        simp only [go_sem, Nat.reduceEqDiff, reduceIte, Nat.reduceAdd, Nat.reduceMul, Nat.reduceLeDiff, Nat.reduceLT]
        have hj := posF_to rfl rfl (ih0 a0 (set? p1_0 p1_1 v5006) (IntKind.i64.wrap (p1_1 + 1)) _ h)
        refine lp_to hj (.one ⟨_, .done _, [(1000001000, 1000001000)], [], ?_⟩)
        clear hj
        simp only [go_sem, Nat.reduceEqDiff, reduceIte, Nat.reduceAdd, Nat.reduceMul, Nat.reduceLeDiff, Nat.reduceLT]
      · replace h := ifF (c := (decide (p1_1 < ((List.length a0 : Nat) : Int)))) hb1 h
        simp only [go_sem, Nat.reduceEqDiff, reduceIte, Nat.reduceAdd, Nat.reduceMul, Nat.reduceLeDiff, Nat.reduceLT]
        refine seq_go ?_
        simp only [go_sem, Nat.reduceEqDiff, reduceIte, Nat.reduceAdd, Nat.reduceMul, Nat.reduceLeDiff, Nat.reduceLT]
        obtain rfl := Option.some.inj h
        simp only [go_sem, Nat.reduceEqDiff, reduceIte, Nat.reduceAdd, Nat.reduceMul, Nat.reduceLeDiff, Nat.reduceLT]
theorem l_toAgentS_l2_ok (n : Nat) : (∀ (a0 : List Agent) (p1_0 : List Agent) (p1_1 : Int) (r : (List Agent)), l_toAgentS_l2 n a0 p1_0 p1_1 = some r → posF Try.prog Try.f252 [1, 1, 0, 1, 0] (.ow (some (257, 5)) (List.map Agent.ds r)) ⟨[(0, .ro (List.map Agent.ds a0)), (3, .own 1000001000), (4, .int .i64 p1_1)], [(1000001000, some ⟨List.map Agent.ds p1_0, some (257, 5)⟩)], []⟩) := (l_toAgentS_l2_all n)

theorem l_toAgentS_ok (a0 : List Agent) (r : (List Agent)) (h : l_toAgentS a0 = some r) : AC Try.prog 252 [.ro (List.map Agent.ds a0)] (.ow (some (257, 5)) (List.map Agent.ds r)) := by
  unfold l_toAgentS at h
  refine ac_fn mixed Try.func252 rfl rfl rfl (by kernel_rfl) (by kernel_rfl) ?_
  simp only [go_sem, Nat.reduceEqDiff, reduceIte, Nat.reduceAdd, Nat.reduceMul, Nat.reduceLeDiff, Nat.reduceLT]
  obtain ⟨v1002, hv1002, h⟩ := bindE h
  obtain ⟨hv1002a, hv1002b, hv1002c⟩ := rep_some hv1002
  refine and_i (by refine ⟨?_, ?_, ?_⟩ <;> omega) ?_
  simp only [go_sem, Nat.reduceEqDiff, reduceIte, Nat.reduceAdd, Nat.reduceMul, Nat.reduceLeDiff, Nat.reduceLT]
  refine row_i (List.map Agent.ds v1002) (by rw [← hv1002c]; simp only [List.map_replicate, go_sem, Agent.ds_eq]) ?_
  simp only [go_sem, Nat.reduceEqDiff, reduceIte, Nat.reduceAdd, Nat.reduceMul, Nat.reduceLeDiff, Nat.reduceLT]
  have hj := posF_to rfl rfl (l_toAgentS_l2_ok fuel a0 v1002 0 _ h)
  refine loop_to hj (.one ⟨_, .done _, [(1000001000, 16032)], [], ?_⟩)
  clear hj
  simp only [go_sem, Nat.reduceEqDiff, reduceIte, Nat.reduceAdd, Nat.reduceMul, Nat.reduceLeDiff, Nat.reduceLT]
theorem l_toNet_ok (a0 : Net) (r : Net) (h : l_toNet a0 = some r) : AC Try.prog 230 [.agg (Net.avs a0)] (.agg (Net.rv r)) := by
  unfold l_toNet at h
  refine ac_fn mixed Try.func230 rfl rfl rfl (by kernel_rfl) (by kernel_rfl) ?_
  simp only [go_sem, Nat.reduceEqDiff, reduceIte, Nat.reduceAdd, Nat.reduceMul, Nat.reduceLeDiff, Nat.reduceLT]
  obtain ⟨v2002, hv2002, h⟩ := bindE h
  refine call_i (l_toAgentS_ok _ _ hv2002) ?_
  simp only [go_sem, Nat.reduceEqDiff, reduceIte, Nat.reduceAdd, Nat.reduceMul, Nat.reduceLeDiff, Nat.reduceLT]
  obtain rfl := Option.some.inj h
  simp only [go_sem, Nat.reduceEqDiff, reduceIte, Nat.reduceAdd, Nat.reduceMul, Nat.reduceLeDiff, Nat.reduceLT]
theorem l_toNetS_l2_all (n : Nat) : (∀ (a0 : List Net) (p1_0 : List Net) (p1_1 : Int) (r : (List Net)), l_toNetS_l2 n a0 p1_0 p1_1 = some r → posF Try.prog Try.f229 [1, 1, 0, 1, 0] (.ow (some (154, 1)) (List.map Net.ds r)) ⟨[(0, .ro (List.map Net.ds a0)), (3, .own 1000001000), (4, .int .i64 p1_1)], [(1000001000, some ⟨List.map Net.ds p1_0, some (154, 1)⟩)], []⟩) := by
  induction n with
  | zero => exact ((fun _ _ _ _ h => by rw [l_toNetS_l2] at h; cases h))
  | succ n ih =>
    have ih0 := ih
    · intro a0 p1_0 p1_1 r h
      rw [l_toNetS_l2] at h
      refine posF_of rfl rfl ?_
      simp only [go_sem, Nat.reduceEqDiff, reduceIte, Nat.reduceAdd, Nat.reduceMul, Nat.reduceLeDiff, Nat.reduceLT]
      refine loop_i ?_
      simp only [go_sem, Nat.reduceEqDiff, reduceIte, Nat.reduceAdd, Nat.reduceMul, Nat.reduceLeDiff, Nat.reduceLT]
      refine cond_i (fun hb1 => ?_) (fun hb1 => ?_)
      · replace h := ifT (c := (decide (p1_1 < ((List.length a0 : Nat) : Int)))) hb1 h
        simp only [go_sem, Nat.reduceEqDiff, reduceIte, Nat.reduceAdd, Nat.reduceMul, Nat.reduceLeDiff, Nat.reduceLT]
        refine seq_go ?_
        simp only [go_sem, Nat.reduceEqDiff, reduceIte, Nat.reduceAdd, Nat.reduceMul, Nat.reduceLeDiff, Nat.reduceLT]
        obtain ⟨v5004, hv5004, h⟩ := bindE h
        refine idx_m hv5004 (Net.ds_len _) ?_
        simp only [go_sem, Nat.reduceEqDiff, reduceIte, Nat.reduceAdd, Nat.reduceMul, Nat.reduceLeDiff, Nat.reduceLT]
        obtain ⟨v5006, hv5006, h⟩ := bindE h
        refine call_i (l_toNet_ok _ _ hv5006) ?_
        simp only [go_sem, Nat.reduceEqDiff, reduceIte, Nat.reduceAdd, Nat.reduceMul, Nat.reduceLeDiff, Nat.reduceLT]
        obtain ⟨v5007, hv5007, h⟩ := bindE h
        refine idx_m hv5007 (Net.ds_len _) ?_
        simp only [go_sem, Nat.reduceEqDiff, reduceIte, Nat.reduceAdd, Nat.reduceMul, Nat.reduceLeDiff, Nat.reduceLT]
        refine opt_i (row_m hv5007) ?_
        simp only [go_sem, Nat.reduceEqDiff, reduceIte, Nat.reduceAdd, Nat.reduceMul, Nat.reduceLeDiff, Nat.reduceLT]
        refine row_i (List.map Net.ds (set? p1_0 p1_1 v5006)) (by simp only [set?, List.map_set, go_sem, Net.ds_eq]) ?_
        simp only [go_sem, Nat.reduceEqDiff, reduceIte, Nat.reduceAdd, Nat.reduceMul, Nat.reduceLeDiff, Nat.reduceLT]
        refine seq_go ?_
        simp only [go_sem, Nat.reduceEqDiff, reduceIte, Nat.reduceAdd, Nat.reduceMul, Nat.reduceLeDiff, Nat.reduceLT]
        have hj := posF_to rfl rfl (ih0 a0 (set? p1_0 p1_1 v5006) (IntKind.i64.wrap (p1_1 + 1)) _ h)
        refine lp_to hj (.one ⟨_, .done _, [(1000001000, 1000001000)], [], ?_⟩)
        clear hj
        simp only [go_sem, Nat.reduceEqDiff, reduceIte, Nat.reduceAdd, Nat.reduceMul, Nat.reduceLeDiff, Nat.reduceLT]
      · replace h := ifF (c := (decide (p1_1 < ((List.length a0 : Nat) : Int)))) hb1 h
        simp only [go_sem, Nat.reduceEqDiff, reduceIte, Nat.reduceAdd, Nat.reduceMul, Nat.reduceLeDiff, Nat.reduceLT]
        refine seq_go ?_
        simp only [go_sem, Nat.reduceEqDiff, reduceIte, Nat.reduceAdd, Nat.reduceMul, Nat.reduceLeDiff, Nat.reduceLT]
        obtain rfl := Option.some.inj h
        simp only [go_sem, Nat.reduceEqDiff, reduceIte, Nat.reduceAdd, Nat.reduceMul, Nat.reduceLeDiff, Nat.reduceLT]
theorem l_toNetS_l2_ok (n : Nat) : (∀ (a0 : List Net) (p1_0 : List Net) (p1_1 : Int) (r : (List Net)), l_toNetS_l2 n a0 p1_0 p1_1 = some r → posF Try.prog Try.f229 [1, 1, 0, 1, 0] (.ow (some (154, 1)) (List.map Net.ds r)) ⟨[(0, .ro (List.map Net.ds a0)), (3, .own 1000001000), (4, .int .i64 p1_1)], [(1000001000, some ⟨List.map Net.ds p1_0, some (154, 1)⟩)], []⟩) := (l_toNetS_l2_all n)

theorem l_toNetS_ok (a0 : List Net) (r : (List Net)) (h : l_toNetS a0 = some r) : AC Try.prog 229 [.ro (List.map Net.ds a0)] (.ow (some (154, 1)) (List.map Net.ds r)) := by
  unfold l_toNetS at h
  refine ac_fn mixed Try.func229 rfl rfl rfl (by kernel_rfl) (by kernel_rfl) ?_
  simp only [go_sem, Nat.reduceEqDiff, reduceIte, Nat.reduceAdd, Nat.reduceMul, Nat.reduceLeDiff, Nat.reduceLT]
  obtain ⟨v1002, hv1002, h⟩ := bindE h
  obtain ⟨hv1002a, hv1002b, hv1002c⟩ := rep_some hv1002
  refine and_i (by refine ⟨?_, ?_, ?_⟩ <;> omega) ?_
  simp only [go_sem, Nat.reduceEqDiff, reduceIte, Nat.reduceAdd, Nat.reduceMul, Nat.reduceLeDiff, Nat.reduceLT]
  refine row_i (List.map Net.ds v1002) (by rw [← hv1002c]; simp only [List.map_replicate, go_sem, Net.ds_eq]) ?_
  simp only [go_sem, Nat.reduceEqDiff, reduceIte, Nat.reduceAdd, Nat.reduceMul, Nat.reduceLeDiff, Nat.reduceLT]
  have hj := posF_to rfl rfl (l_toNetS_l2_ok fuel a0 v1002 0 _ h)
  refine loop_to hj (.one ⟨_, .done _, [(1000001000, 16032)], [], ?_⟩)
  clear hj
  simp only [go_sem, Nat.reduceEqDiff, reduceIte, Nat.reduceAdd, Nat.reduceMul, Nat.reduceLeDiff, Nat.reduceLT]
theorem l_toJob_ok (a0 : Job) (r : Job) (h : l_toJob a0 = some r) : AC Try.prog 183 [.agg (Job.avs a0)] (.agg (Job.rv r)) := by
  unfold l_toJob at h
  refine ac_fn mixed Try.func183 rfl rfl rfl (by kernel_rfl) (by kernel_rfl) ?_
  simp only [go_sem, Nat.reduceEqDiff, reduceIte, Nat.reduceAdd, Nat.reduceMul, Nat.reduceLeDiff, Nat.reduceLT]
  obtain ⟨v8002, hv8002, h⟩ := bindE h
  refine call_i (l_toInt64S_ok _ _ hv8002) ?_
  simp only [go_sem, Nat.reduceEqDiff, reduceIte, Nat.reduceAdd, Nat.reduceMul, Nat.reduceLeDiff, Nat.reduceLT]
  obtain ⟨v9002, hv9002, h⟩ := bindE h
  refine call_i (l_toInt64S_ok _ _ hv9002) ?_
  simp only [go_sem, Nat.reduceEqDiff, reduceIte, Nat.reduceAdd, Nat.reduceMul, Nat.reduceLeDiff, Nat.reduceLT]
  obtain ⟨v10002, hv10002, h⟩ := bindE h
  refine call_i (l_toNetS_ok _ _ hv10002) ?_
  simp only [go_sem, Nat.reduceEqDiff, reduceIte, Nat.reduceAdd, Nat.reduceMul, Nat.reduceLeDiff, Nat.reduceLT]
  obtain ⟨v11002, hv11002, h⟩ := bindE h
  refine call_i (l_toNet_ok _ _ hv11002) ?_
  simp only [go_sem, Nat.reduceEqDiff, reduceIte, Nat.reduceAdd, Nat.reduceMul, Nat.reduceLeDiff, Nat.reduceLT]
  obtain rfl := Option.some.inj h
  simp only [go_sem, Nat.reduceEqDiff, reduceIte, Nat.reduceAdd, Nat.reduceMul, Nat.reduceLeDiff, Nat.reduceLT]
theorem l_toJobS_l2_all (n : Nat) : (∀ (a0 : List Job) (p1_0 : List Job) (p1_1 : Int) (r : (List Job)), l_toJobS_l2 n a0 p1_0 p1_1 = some r → posF Try.prog Try.f108 [1, 1, 0, 1, 0] (.ow (some (156, 10)) (List.map Job.ds r)) ⟨[(0, .ro (List.map Job.ds a0)), (3, .own 1000001000), (4, .int .i64 p1_1)], [(1000001000, some ⟨List.map Job.ds p1_0, some (156, 10)⟩)], []⟩) := by
  induction n with
  | zero => exact ((fun _ _ _ _ h => by rw [l_toJobS_l2] at h; cases h))
  | succ n ih =>
    have ih0 := ih
    · intro a0 p1_0 p1_1 r h
      rw [l_toJobS_l2] at h
      refine posF_of rfl rfl ?_
      simp only [go_sem, Nat.reduceEqDiff, reduceIte, Nat.reduceAdd, Nat.reduceMul, Nat.reduceLeDiff, Nat.reduceLT]
      refine loop_i ?_
      simp only [go_sem, Nat.reduceEqDiff, reduceIte, Nat.reduceAdd, Nat.reduceMul, Nat.reduceLeDiff, Nat.reduceLT]
      refine cond_i (fun hb1 => ?_) (fun hb1 => ?_)
      · replace h := ifT (c := (decide (p1_1 < ((List.length a0 : Nat) : Int)))) hb1 h
        simp only [go_sem, Nat.reduceEqDiff, reduceIte, Nat.reduceAdd, Nat.reduceMul, Nat.reduceLeDiff, Nat.reduceLT]
        refine seq_go ?_
        simp only [go_sem, Nat.reduceEqDiff, reduceIte, Nat.reduceAdd, Nat.reduceMul, Nat.reduceLeDiff, Nat.reduceLT]
        obtain ⟨v5004, hv5004, h⟩ := bindE h
        refine idx_m hv5004 (Job.ds_len _) ?_
        simp only [go_sem, Nat.reduceEqDiff, reduceIte, Nat.reduceAdd, Nat.reduceMul, Nat.reduceLeDiff, Nat.reduceLT]
        obtain ⟨v5006, hv5006, h⟩ := bindE h
        refine call_i (l_toJob_ok _ _ hv5006) ?_
        simp only [go_sem, Nat.reduceEqDiff, reduceIte, Nat.reduceAdd, Nat.reduceMul, Nat.reduceLeDiff, Nat.reduceLT]
        obtain ⟨v5007, hv5007, h⟩ := bindE h
        refine idx_m hv5007 (Job.ds_len _) ?_
        simp only [go_sem, Nat.reduceEqDiff, reduceIte, Nat.reduceAdd, Nat.reduceMul, Nat.reduceLeDiff, Nat.reduceLT]
        refine opt_i (row_m hv5007) ?_
        simp only [go_sem, Nat.reduceEqDiff, reduceIte, Nat.reduceAdd, Nat.reduceMul, Nat.reduceLeDiff, Nat.reduceLT]
        refine row_i (List.map Job.ds (set? p1_0 p1_1 v5006)) (by simp only [set?, List.map_set, go_sem, Job.ds_eq]) ?_
        simp only [go_sem, Nat.reduceEqDiff, reduceIte, Nat.reduceAdd, Nat.reduceMul, Nat.reduceLeDiff, Nat.reduceLT]
        refine seq_go ?_
        simp only [go_sem, Nat.reduceEqDiff, reduceIte, Nat.reduceAdd, Nat.reduceMul, Nat.reduceLeDiff, Nat.reduceLT]
        have hj := posF_to rfl rfl (ih0 a0 (set? p1_0 p1_1 v5006) (IntKind.i64.wrap (p1_1 + 1)) _ h)
        refine lp_to hj (.one ⟨_, .done _, [(1000001000, 1000001000)], [], ?_⟩)
        clear hj
        simp only [go_sem, Nat.reduceEqDiff, reduceIte, Nat.reduceAdd, Nat.reduceMul, Nat.reduceLeDiff, Nat.reduceLT]
      · replace h := ifF (c := (decide (p1_1 < ((List.length a0 : Nat) : Int)))) hb1 h
        simp only [go_sem, Nat.reduceEqDiff, reduceIte, Nat.reduceAdd, Nat.reduceMul, Nat.reduceLeDiff, Nat.reduceLT]
        refine seq_go ?_
        simp only [go_sem, Nat.reduceEqDiff, reduceIte, Nat.reduceAdd, Nat.reduceMul, Nat.reduceLeDiff, Nat.reduceLT]
        obtain rfl := Option.some.inj h
        simp only [go_sem, Nat.reduceEqDiff, reduceIte, Nat.reduceAdd, Nat.reduceMul, Nat.reduceLeDiff, Nat.reduceLT]
theorem l_toJobS_l2_ok (n : Nat) : (∀ (a0 : List Job) (p1_0 : List Job) (p1_1 : Int) (r : (List Job)), l_toJobS_l2 n a0 p1_0 p1_1 = some r → posF Try.prog Try.f108 [1, 1, 0, 1, 0] (.ow (some (156, 10)) (List.map Job.ds r)) ⟨[(0, .ro (List.map Job.ds a0)), (3, .own 1000001000), (4, .int .i64 p1_1)], [(1000001000, some ⟨List.map Job.ds p1_0, some (156, 10)⟩)], []⟩) := (l_toJobS_l2_all n)

theorem l_toJobS_ok (a0 : List Job) (r : (List Job)) (h : l_toJobS a0 = some r) : AC Try.prog 108 [.ro (List.map Job.ds a0)] (.ow (some (156, 10)) (List.map Job.ds r)) := by
  unfold l_toJobS at h
  refine ac_fn mixed Try.func108 rfl rfl rfl (by kernel_rfl) (by kernel_rfl) ?_
  simp only [go_sem, Nat.reduceEqDiff, reduceIte, Nat.reduceAdd, Nat.reduceMul, Nat.reduceLeDiff, Nat.reduceLT]
  obtain ⟨v1002, hv1002, h⟩ := bindE h
  obtain ⟨hv1002a, hv1002b, hv1002c⟩ := rep_some hv1002
  refine and_i (by refine ⟨?_, ?_, ?_⟩ <;> omega) ?_
  simp only [go_sem, Nat.reduceEqDiff, reduceIte, Nat.reduceAdd, Nat.reduceMul, Nat.reduceLeDiff, Nat.reduceLT]
  refine row_i (List.map Job.ds v1002) (by rw [← hv1002c]; simp only [List.map_replicate, go_sem, Job.ds_eq]) ?_
  simp only [go_sem, Nat.reduceEqDiff, reduceIte, Nat.reduceAdd, Nat.reduceMul, Nat.reduceLeDiff, Nat.reduceLT]
  have hj := posF_to rfl rfl (l_toJobS_l2_ok fuel a0 v1002 0 _ h)
  refine loop_to hj (.one ⟨_, .done _, [(1000001000, 16032)], [], ?_⟩)
  clear hj
  simp only [go_sem, Nat.reduceEqDiff, reduceIte, Nat.reduceAdd, Nat.reduceMul, Nat.reduceLeDiff, Nat.reduceLT]
theorem l_toQueue_ok (a0 : Queue) (r : Queue) (h : l_toQueue a0 = some r) : AC Try.prog 47 [.agg (Queue.avs a0)] (.agg (Queue.rv r)) := by
  unfold l_toQueue at h
  refine ac_fn mixed Try.func47 rfl rfl rfl (by kernel_rfl) (by kernel_rfl) ?_
  simp only [go_sem, Nat.reduceEqDiff, reduceIte, Nat.reduceAdd, Nat.reduceMul, Nat.reduceLeDiff, Nat.reduceLT]
  obtain ⟨v5002, hv5002, h⟩ := bindE h
  refine call_i (l_toJobS_ok _ _ hv5002) ?_
  simp only [go_sem, Nat.reduceEqDiff, reduceIte, Nat.reduceAdd, Nat.reduceMul, Nat.reduceLeDiff, Nat.reduceLT]
  obtain rfl := Option.some.inj h
  simp only [go_sem, Nat.reduceEqDiff, reduceIte, Nat.reduceAdd, Nat.reduceMul, Nat.reduceLeDiff, Nat.reduceLT]
theorem g_EqualFunc_simpl_Job_l1_all (n : Nat) : (∀ (a0 : List Job) (a1 : List Job) (p0_0 : Int) (f2 : (Job → Job → Option Bool)) (g2 : FuncId) (c2 : List AV) (s2 : Still c2) (h2 : ∀ (y0 : Job) (y1 : Job) (q : Bool), f2 y0 y1 = some q → AC Try.prog g2 (.agg (Job.avs y0) :: .agg (Job.avs y1) :: c2) (.bool q)) (r : Bool), g_EqualFunc_simpl_Job_l1 n a0 a1 p0_0 f2 = some r → posF Try.prog Try.f109 [1, 1, 0, 1, 0] (.bool r) ⟨[(1, .ro (List.map Job.ds a1)), (2, .fn g2 c2), (15, .ro (List.map Job.ds a0)), (16, .int .i64 ((List.length a0 : Nat) : Int)), (17, .int .i64 p0_0)], [], []⟩) := by
  induction n with
  | zero => exact ((fun _ _ _ _ _ _ _ _ _ h => by rw [g_EqualFunc_simpl_Job_l1] at h; cases h))
  | succ n ih =>
    have ih0 := ih
    · intro a0 a1 p0_0 f2 g2 c2 s2 h2 r h
      rw [g_EqualFunc_simpl_Job_l1] at h
      refine posF_of rfl rfl ?_
      simp only [go_sem, Nat.reduceEqDiff, reduceIte, Nat.reduceAdd, Nat.reduceMul, Nat.reduceLeDiff, Nat.reduceLT, s2.k, s2.r, s2.c, s2.p]
      refine loop_i ?_
      simp only [go_sem, Nat.reduceEqDiff, reduceIte, Nat.reduceAdd, Nat.reduceMul, Nat.reduceLeDiff, Nat.reduceLT, s2.k, s2.r, s2.c, s2.p]
      refine cond_i (fun hb2 => ?_) (fun hb2 => ?_)
      · replace h := ifT (c := (decide (p0_0 < ((List.length a0 : Nat) : Int)))) hb2 h
        simp only [go_sem, Nat.reduceEqDiff, reduceIte, Nat.reduceAdd, Nat.reduceMul, Nat.reduceLeDiff, Nat.reduceLT, s2.k, s2.r, s2.c, s2.p]
        refine seq_go ?_
        simp only [go_sem, Nat.reduceEqDiff, reduceIte, Nat.reduceAdd, Nat.reduceMul, Nat.reduceLeDiff, Nat.reduceLT, s2.k, s2.r, s2.c, s2.p]
        obtain ⟨v5001, hv5001, h⟩ := bindE h
        refine idx_m hv5001 (Job.ds_len _) ?_
        simp only [go_sem, Nat.reduceEqDiff, reduceIte, Nat.reduceAdd, Nat.reduceMul, Nat.reduceLeDiff, Nat.reduceLT, s2.k, s2.r, s2.c, s2.p]
        obtain ⟨v6002, hv6002, h⟩ := bindE h
        refine idx_m hv6002 (Job.ds_len _) ?_
        simp only [go_sem, Nat.reduceEqDiff, reduceIte, Nat.reduceAdd, Nat.reduceMul, Nat.reduceLeDiff, Nat.reduceLT, s2.k, s2.r, s2.c, s2.p]
        obtain ⟨v7003, hv7003, h⟩ := bindE h
        refine call_i (h2 _ _ _ hv7003) ?_
        simp only [go_sem, Nat.reduceEqDiff, reduceIte, Nat.reduceAdd, Nat.reduceMul, Nat.reduceLeDiff, Nat.reduceLT, s2.k, s2.r, s2.c, s2.p]
        refine cond_i (fun hb3 => ?_) (fun hb3 => ?_)
        · replace h := ifT (c := (!v7003)) hb3 h
          simp only [go_sem, Nat.reduceEqDiff, reduceIte, Nat.reduceAdd, Nat.reduceMul, Nat.reduceLeDiff, Nat.reduceLT, s2.k, s2.r, s2.c, s2.p]
          obtain rfl := Option.some.inj h
          simp only [go_sem, Nat.reduceEqDiff, reduceIte, Nat.reduceAdd, Nat.reduceMul, Nat.reduceLeDiff, Nat.reduceLT, s2.k, s2.r, s2.c, s2.p]
        · replace h := ifF (c := (!v7003)) hb3 h
          simp only [go_sem, Nat.reduceEqDiff, reduceIte, Nat.reduceAdd, Nat.reduceMul, Nat.reduceLeDiff, Nat.reduceLT, s2.k, s2.r, s2.c, s2.p]
          refine seq_go ?_
          simp only [go_sem, Nat.reduceEqDiff, reduceIte, Nat.reduceAdd, Nat.reduceMul, Nat.reduceLeDiff, Nat.reduceLT, s2.k, s2.r, s2.c, s2.p]
          have hj := posF_to rfl rfl (ih0 a0 a1 (IntKind.i64.wrap (p0_0 + 1)) f2 g2 c2 s2 h2 _ h)
          refine lp_to hj (.one ⟨_, .done _, [], [], ?_⟩)
          clear hj
          simp only [go_sem, Nat.reduceEqDiff, reduceIte, Nat.reduceAdd, Nat.reduceMul, Nat.reduceLeDiff, Nat.reduceLT, s2.k, s2.r, s2.c, s2.p]
      · replace h := ifF (c := (decide (p0_0 < ((List.length a0 : Nat) : Int)))) hb2 h
        simp only [go_sem, Nat.reduceEqDiff, reduceIte, Nat.reduceAdd, Nat.reduceMul, Nat.reduceLeDiff, Nat.reduceLT, s2.k, s2.r, s2.c, s2.p]
        refine seq_go ?_
        simp only [go_sem, Nat.reduceEqDiff, reduceIte, Nat.reduceAdd, Nat.reduceMul, Nat.reduceLeDiff, Nat.reduceLT, s2.k, s2.r, s2.c, s2.p]
        obtain rfl := Option.some.inj h
        simp only [go_sem, Nat.reduceEqDiff, reduceIte, Nat.reduceAdd, Nat.reduceMul, Nat.reduceLeDiff, Nat.reduceLT, s2.k, s2.r, s2.c, s2.p]
theorem g_EqualFunc_simpl_Job_l1_ok (n : Nat) : (∀ (a0 : List Job) (a1 : List Job) (p0_0 : Int) (f2 : (Job → Job → Option Bool)) (g2 : FuncId) (c2 : List AV) (s2 : Still c2) (h2 : ∀ (y0 : Job) (y1 : Job) (q : Bool), f2 y0 y1 = some q → AC Try.prog g2 (.agg (Job.avs y0) :: .agg (Job.avs y1) :: c2) (.bool q)) (r : Bool), g_EqualFunc_simpl_Job_l1 n a0 a1 p0_0 f2 = some r → posF Try.prog Try.f109 [1, 1, 0, 1, 0] (.bool r) ⟨[(1, .ro (List.map Job.ds a1)), (2, .fn g2 c2), (15, .ro (List.map Job.ds a0)), (16, .int .i64 ((List.length a0 : Nat) : Int)), (17, .int .i64 p0_0)], [], []⟩) := (g_EqualFunc_simpl_Job_l1_all n)

theorem g_EqualFunc_simpl_Job_ok (a0 : List Job) (a1 : List Job) (f2 : (Job → Job → Option Bool)) (g2 : FuncId) (c2 : List AV) (s2 : Still c2) (h2 : ∀ (y0 : Job) (y1 : Job) (q : Bool), f2 y0 y1 = some q → AC Try.prog g2 (.agg (Job.avs y0) :: .agg (Job.avs y1) :: c2) (.bool q)) (r : Bool) (h : g_EqualFunc_simpl_Job a0 a1 f2 = some r) : AC Try.prog 109 [.ro (List.map Job.ds a0), .ro (List.map Job.ds a1), .fn g2 c2] (.bool r) := by
  unfold g_EqualFunc_simpl_Job at h
  refine ac_fn mixed Try.func109 rfl rfl rfl (by kernel_rfl) (by kernel_rfl) ?_
  simp only [go_sem, Nat.reduceEqDiff, reduceIte, Nat.reduceAdd, Nat.reduceMul, Nat.reduceLeDiff, Nat.reduceLT, s2.k, s2.r, s2.c, s2.p]
  refine cond_i (fun hb1 => ?_) (fun hb1 => ?_)
  · replace h := ifT (c := (!decide (((List.length a0 : Nat) : Int) = ((List.length a1 : Nat) : Int)))) hb1 h
    simp only [go_sem, Nat.reduceEqDiff, reduceIte, Nat.reduceAdd, Nat.reduceMul, Nat.reduceLeDiff, Nat.reduceLT, s2.k, s2.r, s2.c, s2.p]
    obtain rfl := Option.some.inj h
    simp only [go_sem, Nat.reduceEqDiff, reduceIte, Nat.reduceAdd, Nat.reduceMul, Nat.reduceLeDiff, Nat.reduceLT, s2.k, s2.r, s2.c, s2.p]
  · replace h := ifF (c := (!decide (((List.length a0 : Nat) : Int) = ((List.length a1 : Nat) : Int)))) hb1 h
    simp only [go_sem, Nat.reduceEqDiff, reduceIte, Nat.reduceAdd, Nat.reduceMul, Nat.reduceLeDiff, Nat.reduceLT, s2.k, s2.r, s2.c, s2.p]
    refine seq_go ?_
    simp only [go_sem, Nat.reduceEqDiff, reduceIte, Nat.reduceAdd, Nat.reduceMul, Nat.reduceLeDiff, Nat.reduceLT, s2.k, s2.r, s2.c, s2.p]
    have hj := posF_to rfl rfl (g_EqualFunc_simpl_Job_l1_ok fuel a0 a1 0 f2 g2 c2 s2 h2 _ h)
    refine loop_to hj (.one ⟨_, .done _, [], [], ?_⟩)
    clear hj
    simp only [go_sem, Nat.reduceEqDiff, reduceIte, Nat.reduceAdd, Nat.reduceMul, Nat.reduceLeDiff, Nat.reduceLT, s2.k, s2.r, s2.c, s2.p]
theorem g_Equal_sint64_l1_all (n : Nat) : (∀ (a0 : List Int) (a1 : List Int) (p0_0 : Int) (r : Bool), g_Equal_sint64_l1 n a0 a1 p0_0 = some r → posF Try.prog Try.f184 [1, 1, 0, 1, 0] (.bool r) ⟨[(0, .ro (List.map i64D a0)), (1, .ro (List.map i64D a1)), (12, .int .i64 ((List.length a0 : Nat) : Int)), (13, .int .i64 p0_0)], [], []⟩) := by
  induction n with
  | zero => exact ((fun _ _ _ _ h => by rw [g_Equal_sint64_l1] at h; cases h))
  | succ n ih =>
    have ih0 := ih
    · intro a0 a1 p0_0 r h
      rw [g_Equal_sint64_l1] at h
      refine posF_of rfl rfl ?_
      simp only [go_sem, Nat.reduceEqDiff, reduceIte, Nat.reduceAdd, Nat.reduceMul, Nat.reduceLeDiff, Nat.reduceLT]
      refine loop_i ?_
      simp only [go_sem, Nat.reduceEqDiff, reduceIte, Nat.reduceAdd, Nat.reduceMul, Nat.reduceLeDiff, Nat.reduceLT]
      refine cond_i (fun hb2 => ?_) (fun hb2 => ?_)
      · replace h := ifT (c := (decide (p0_0 < ((List.length a0 : Nat) : Int)))) hb2 h
        simp only [go_sem, Nat.reduceEqDiff, reduceIte, Nat.reduceAdd, Nat.reduceMul, Nat.reduceLeDiff, Nat.reduceLT]
        refine seq_go ?_
        simp only [go_sem, Nat.reduceEqDiff, reduceIte, Nat.reduceAdd, Nat.reduceMul, Nat.reduceLeDiff, Nat.reduceLT]
        obtain ⟨v6002, hv6002, h⟩ := bindE h
        refine idx_m hv6002 rfl ?_
        simp only [go_sem, Nat.reduceEqDiff, reduceIte, Nat.reduceAdd, Nat.reduceMul, Nat.reduceLeDiff, Nat.reduceLT]
        obtain ⟨v6006, hv6006, h⟩ := bindE h
        refine idx_m hv6006 rfl ?_
        simp only [go_sem, Nat.reduceEqDiff, reduceIte, Nat.reduceAdd, Nat.reduceMul, Nat.reduceLeDiff, Nat.reduceLT]
        refine cond_i (fun hb3 => ?_) (fun hb3 => ?_)
        · replace h := ifT (c := (!decide (v6002 = v6006))) hb3 h
          simp only [go_sem, Nat.reduceEqDiff, reduceIte, Nat.reduceAdd, Nat.reduceMul, Nat.reduceLeDiff, Nat.reduceLT]
          obtain rfl := Option.some.inj h
          simp only [go_sem, Nat.reduceEqDiff, reduceIte, Nat.reduceAdd, Nat.reduceMul, Nat.reduceLeDiff, Nat.reduceLT]
        · replace h := ifF (c := (!decide (v6002 = v6006))) hb3 h
          simp only [go_sem, Nat.reduceEqDiff, reduceIte, Nat.reduceAdd, Nat.reduceMul, Nat.reduceLeDiff, Nat.reduceLT]
          refine seq_go ?_
          simp only [go_sem, Nat.reduceEqDiff, reduceIte, Nat.reduceAdd, Nat.reduceMul, Nat.reduceLeDiff, Nat.reduceLT]
          have hj := posF_to rfl rfl (ih0 a0 a1 (IntKind.i64.wrap (p0_0 + 1)) _ h)
          refine lp_to hj (.one ⟨_, .done _, [], [], ?_⟩)
          clear hj
          simp only [go_sem, Nat.reduceEqDiff, reduceIte, Nat.reduceAdd, Nat.reduceMul, Nat.reduceLeDiff, Nat.reduceLT]
      · replace h := ifF (c := (decide (p0_0 < ((List.length a0 : Nat) : Int)))) hb2 h
        simp only [go_sem, Nat.reduceEqDiff, reduceIte, Nat.reduceAdd, Nat.reduceMul, Nat.reduceLeDiff, Nat.reduceLT]
        refine seq_go ?_
        simp only [go_sem, Nat.reduceEqDiff, reduceIte, Nat.reduceAdd, Nat.reduceMul, Nat.reduceLeDiff, Nat.reduceLT]
        obtain rfl := Option.some.inj h
        simp only [go_sem, Nat.reduceEqDiff, reduceIte, Nat.reduceAdd, Nat.reduceMul, Nat.reduceLeDiff, Nat.reduceLT]
theorem g_Equal_sint64_l1_ok (n : Nat) : (∀ (a0 : List Int) (a1 : List Int) (p0_0 : Int) (r : Bool), g_Equal_sint64_l1 n a0 a1 p0_0 = some r → posF Try.prog Try.f184 [1, 1, 0, 1, 0] (.bool r) ⟨[(0, .ro (List.map i64D a0)), (1, .ro (List.map i64D a1)), (12, .int .i64 ((List.length a0 : Nat) : Int)), (13, .int .i64 p0_0)], [], []⟩) := (g_Equal_sint64_l1_all n)

theorem g_Equal_sint64_ok (a0 : List Int) (a1 : List Int) (r : Bool) (h : g_Equal_sint64 a0 a1 = some r) : AC Try.prog 184 [.ro (List.map i64D a0), .ro (List.map i64D a1)] (.bool r) := by
  unfold g_Equal_sint64 at h
  refine ac_fn mixed Try.func184 rfl rfl rfl (by kernel_rfl) (by kernel_rfl) ?_
  simp only [go_sem, Nat.reduceEqDiff, reduceIte, Nat.reduceAdd, Nat.reduceMul, Nat.reduceLeDiff, Nat.reduceLT]
  refine cond_i (fun hb1 => ?_) (fun hb1 => ?_)
  · replace h := ifT (c := (!decide (((List.length a0 : Nat) : Int) = ((List.length a1 : Nat) : Int)))) hb1 h
    simp only [go_sem, Nat.reduceEqDiff, reduceIte, Nat.reduceAdd, Nat.reduceMul, Nat.reduceLeDiff, Nat.reduceLT]
    obtain rfl := Option.some.inj h
    simp only [go_sem, Nat.reduceEqDiff, reduceIte, Nat.reduceAdd, Nat.reduceMul, Nat.reduceLeDiff, Nat.reduceLT]
  · replace h := ifF (c := (!decide (((List.length a0 : Nat) : Int) = ((List.length a1 : Nat) : Int)))) hb1 h
    simp only [go_sem, Nat.reduceEqDiff, reduceIte, Nat.reduceAdd, Nat.reduceMul, Nat.reduceLeDiff, Nat.reduceLT]
    refine seq_go ?_
    simp only [go_sem, Nat.reduceEqDiff, reduceIte, Nat.reduceAdd, Nat.reduceMul, Nat.reduceLeDiff, Nat.reduceLT]
    have hj := posF_to rfl rfl (g_Equal_sint64_l1_ok fuel a0 a1 0 _ h)
    refine loop_to hj (.one ⟨_, .done _, [], [], ?_⟩)
    clear hj
    simp only [go_sem, Nat.reduceEqDiff, reduceIte, Nat.reduceAdd, Nat.reduceMul, Nat.reduceLeDiff, Nat.reduceLT]
theorem g_EqualFunc_simpl_Net_l1_all (n : Nat) : (∀ (a0 : List Net) (a1 : List Net) (p0_0 : Int) (f2 : (Net → Net → Option Bool)) (g2 : FuncId) (c2 : List AV) (s2 : Still c2) (h2 : ∀ (y0 : Net) (y1 : Net) (q : Bool), f2 y0 y1 = some q → AC Try.prog g2 (.agg (Net.avs y0) :: .agg (Net.avs y1) :: c2) (.bool q)) (r : Bool), g_EqualFunc_simpl_Net_l1 n a0 a1 p0_0 f2 = some r → posF Try.prog Try.f185 [1, 1, 0, 1, 0] (.bool r) ⟨[(1, .ro (List.map Net.ds a1)), (2, .fn g2 c2), (15, .ro (List.map Net.ds a0)), (16, .int .i64 ((List.length a0 : Nat) : Int)), (17, .int .i64 p0_0)], [], []⟩) := by
  induction n with
  | zero => exact ((fun _ _ _ _ _ _ _ _ _ h => by rw [g_EqualFunc_simpl_Net_l1] at h; cases h))
  | succ n ih =>
    have ih0 := ih
    · intro a0 a1 p0_0 f2 g2 c2 s2 h2 r h
      rw [g_EqualFunc_simpl_Net_l1] at h
      refine posF_of rfl rfl ?_
      simp only [go_sem, Nat.reduceEqDiff, reduceIte, Nat.reduceAdd, Nat.reduceMul, Nat.reduceLeDiff, Nat.reduceLT, s2.k, s2.r, s2.c, s2.p]
      refine loop_i ?_
      simp only [go_sem, Nat.reduceEqDiff, reduceIte, Nat.reduceAdd, Nat.reduceMul, Nat.reduceLeDiff, Nat.reduceLT, s2.k, s2.r, s2.c, s2.p]
      refine cond_i (fun hb2 => ?_) (fun hb2 => ?_)
      · replace h := ifT (c := (decide (p0_0 < ((List.length a0 : Nat) : Int)))) hb2 h
        simp only [go_sem, Nat.reduceEqDiff, reduceIte, Nat.reduceAdd, Nat.reduceMul, Nat.reduceLeDiff, Nat.reduceLT, s2.k, s2.r, s2.c, s2.p]
        refine seq_go ?_
        simp only [go_sem, Nat.reduceEqDiff, reduceIte, Nat.reduceAdd, Nat.reduceMul, Nat.reduceLeDiff, Nat.reduceLT, s2.k, s2.r, s2.c, s2.p]
        obtain ⟨v5001, hv5001, h⟩ := bindE h
        refine idx_m hv5001 (Net.ds_len _) ?_
        simp only [go_sem, Nat.reduceEqDiff, reduceIte, Nat.reduceAdd, Nat.reduceMul, Nat.reduceLeDiff, Nat.reduceLT, s2.k, s2.r, s2.c, s2.p]
        obtain ⟨v6002, hv6002, h⟩ := bindE h
        refine idx_m hv6002 (Net.ds_len _) ?_
        simp only [go_sem, Nat.reduceEqDiff, reduceIte, Nat.reduceAdd, Nat.reduceMul, Nat.reduceLeDiff, Nat.reduceLT, s2.k, s2.r, s2.c, s2.p]
        obtain ⟨v7003, hv7003, h⟩ := bindE h
        refine call_i (h2 _ _ _ hv7003) ?_
        simp only [go_sem, Nat.reduceEqDiff, reduceIte, Nat.reduceAdd, Nat.reduceMul, Nat.reduceLeDiff, Nat.reduceLT, s2.k, s2.r, s2.c, s2.p]
        refine cond_i (fun hb3 => ?_) (fun hb3 => ?_)
        · replace h := ifT (c := (!v7003)) hb3 h
          simp only [go_sem, Nat.reduceEqDiff, reduceIte, Nat.reduceAdd, Nat.reduceMul, Nat.reduceLeDiff, Nat.reduceLT, s2.k, s2.r, s2.c, s2.p]
          obtain rfl := Option.some.inj h
          simp only [go_sem, Nat.reduceEqDiff, reduceIte, Nat.reduceAdd, Nat.reduceMul, Nat.reduceLeDiff, Nat.reduceLT, s2.k, s2.r, s2.c, s2.p]
        · replace h := ifF (c := (!v7003)) hb3 h
          simp only [go_sem, Nat.reduceEqDiff, reduceIte, Nat.reduceAdd, Nat.reduceMul, Nat.reduceLeDiff, Nat.reduceLT, s2.k, s2.r, s2.c, s2.p]
          refine seq_go ?_
          simp only [go_sem, Nat.reduceEqDiff, reduceIte, Nat.reduceAdd, Nat.reduceMul, Nat.reduceLeDiff, Nat.reduceLT, s2.k, s2.r, s2.c, s2.p]
          have hj := posF_to rfl rfl (ih0 a0 a1 (IntKind.i64.wrap (p0_0 + 1)) f2 g2 c2 s2 h2 _ h)
          refine lp_to hj (.one ⟨_, .done _, [], [], ?_⟩)
          clear hj
          simp only [go_sem, Nat.reduceEqDiff, reduceIte, Nat.reduceAdd, Nat.reduceMul, Nat.reduceLeDiff, Nat.reduceLT, s2.k, s2.r, s2.c, s2.p]
      · replace h := ifF (c := (decide (p0_0 < ((List.length a0 : Nat) : Int)))) hb2 h
        simp only [go_sem, Nat.reduceEqDiff, reduceIte, Nat.reduceAdd, Nat.reduceMul, Nat.reduceLeDiff, Nat.reduceLT, s2.k, s2.r, s2.c, s2.p]
        refine seq_go ?_
        simp only [go_sem, Nat.reduceEqDiff, reduceIte, Nat.reduceAdd, Nat.reduceMul, Nat.reduceLeDiff, Nat.reduceLT, s2.k, s2.r, s2.c, s2.p]
        obtain rfl := Option.some.inj h
        simp only [go_sem, Nat.reduceEqDiff, reduceIte, Nat.reduceAdd, Nat.reduceMul, Nat.reduceLeDiff, Nat.reduceLT, s2.k, s2.r, s2.c, s2.p]
theorem g_EqualFunc_simpl_Net_l1_ok (n : Nat) : (∀ (a0 : List Net) (a1 : List Net) (p0_0 : Int) (f2 : (Net → Net → Option Bool)) (g2 : FuncId) (c2 : List AV) (s2 : Still c2) (h2 : ∀ (y0 : Net) (y1 : Net) (q : Bool), f2 y0 y1 = some q → AC Try.prog g2 (.agg (Net.avs y0) :: .agg (Net.avs y1) :: c2) (.bool q)) (r : Bool), g_EqualFunc_simpl_Net_l1 n a0 a1 p0_0 f2 = some r → posF Try.prog Try.f185 [1, 1, 0, 1, 0] (.bool r) ⟨[(1, .ro (List.map Net.ds a1)), (2, .fn g2 c2), (15, .ro (List.map Net.ds a0)), (16, .int .i64 ((List.length a0 : Nat) : Int)), (17, .int .i64 p0_0)], [], []⟩) := (g_EqualFunc_simpl_Net_l1_all n)

theorem g_EqualFunc_simpl_Net_ok (a0 : List Net) (a1 : List Net) (f2 : (Net → Net → Option Bool)) (g2 : FuncId) (c2 : List AV) (s2 : Still c2) (h2 : ∀ (y0 : Net) (y1 : Net) (q : Bool), f2 y0 y1 = some q → AC Try.prog g2 (.agg (Net.avs y0) :: .agg (Net.avs y1) :: c2) (.bool q)) (r : Bool) (h : g_EqualFunc_simpl_Net a0 a1 f2 = some r) : AC Try.prog 185 [.ro (List.map Net.ds a0), .ro (List.map Net.ds a1), .fn g2 c2] (.bool r) := by
  unfold g_EqualFunc_simpl_Net at h
  refine ac_fn mixed Try.func185 rfl rfl rfl (by kernel_rfl) (by kernel_rfl) ?_
  simp only [go_sem, Nat.reduceEqDiff, reduceIte, Nat.reduceAdd, Nat.reduceMul, Nat.reduceLeDiff, Nat.reduceLT, s2.k, s2.r, s2.c, s2.p]
  refine cond_i (fun hb1 => ?_) (fun hb1 => ?_)
  · replace h := ifT (c := (!decide (((List.length a0 : Nat) : Int) = ((List.length a1 : Nat) : Int)))) hb1 h
    simp only [go_sem, Nat.reduceEqDiff, reduceIte, Nat.reduceAdd, Nat.reduceMul, Nat.reduceLeDiff, Nat.reduceLT, s2.k, s2.r, s2.c, s2.p]
    obtain rfl := Option.some.inj h
    simp only [go_sem, Nat.reduceEqDiff, reduceIte, Nat.reduceAdd, Nat.reduceMul, Nat.reduceLeDiff, Nat.reduceLT, s2.k, s2.r, s2.c, s2.p]
  · replace h := ifF (c := (!decide (((List.length a0 : Nat) : Int) = ((List.length a1 : Nat) : Int)))) hb1 h
    simp only [go_sem, Nat.reduceEqDiff, reduceIte, Nat.reduceAdd, Nat.reduceMul, Nat.reduceLeDiff, Nat.reduceLT, s2.k, s2.r, s2.c, s2.p]
    refine seq_go ?_
    simp only [go_sem, Nat.reduceEqDiff, reduceIte, Nat.reduceAdd, Nat.reduceMul, Nat.reduceLeDiff, Nat.reduceLT, s2.k, s2.r, s2.c, s2.p]
    have hj := posF_to rfl rfl (g_EqualFunc_simpl_Net_l1_ok fuel a0 a1 0 f2 g2 c2 s2 h2 _ h)
    refine loop_to hj (.one ⟨_, .done _, [], [], ?_⟩)
    clear hj
    simp only [go_sem, Nat.reduceEqDiff, reduceIte, Nat.reduceAdd, Nat.reduceMul, Nat.reduceLeDiff, Nat.reduceLT, s2.k, s2.r, s2.c, s2.p]
theorem g_EqualFunc_simpl_Agent_l1_all (n : Nat) : (∀ (a0 : List Agent) (a1 : List Agent) (p0_0 : Int) (f2 : (Agent → Agent → Option Bool)) (g2 : FuncId) (c2 : List AV) (s2 : Still c2) (h2 : ∀ (y0 : Agent) (y1 : Agent) (q : Bool), f2 y0 y1 = some q → AC Try.prog g2 (.agg (Agent.avs y0) :: .agg (Agent.avs y1) :: c2) (.bool q)) (r : Bool), g_EqualFunc_simpl_Agent_l1 n a0 a1 p0_0 f2 = some r → posF Try.prog Try.f231 [1, 1, 0, 1, 0] (.bool r) ⟨[(1, .ro (List.map Agent.ds a1)), (2, .fn g2 c2), (15, .ro (List.map Agent.ds a0)), (16, .int .i64 ((List.length a0 : Nat) : Int)), (17, .int .i64 p0_0)], [], []⟩) := by
  induction n with
  | zero => exact ((fun _ _ _ _ _ _ _ _ _ h => by rw [g_EqualFunc_simpl_Agent_l1] at h; cases h))
  | succ n ih =>
    have ih0 := ih
    · intro a0 a1 p0_0 f2 g2 c2 s2 h2 r h
      rw [g_EqualFunc_simpl_Agent_l1] at h
      refine posF_of rfl rfl ?_
      simp only [go_sem, Nat.reduceEqDiff, reduceIte, Nat.reduceAdd, Nat.reduceMul, Nat.reduceLeDiff, Nat.reduceLT, s2.k, s2.r, s2.c, s2.p]
      refine loop_i ?_
      simp only [go_sem, Nat.reduceEqDiff, reduceIte, Nat.reduceAdd, Nat.reduceMul, Nat.reduceLeDiff, Nat.reduceLT, s2.k, s2.r, s2.c, s2.p]
      refine cond_i (fun hb2 => ?_) (fun hb2 => ?_)
      · replace h := ifT (c := (decide (p0_0 < ((List.length a0 : Nat) : Int)))) hb2 h
        simp only [go_sem, Nat.reduceEqDiff, reduceIte, Nat.reduceAdd, Nat.reduceMul, Nat.reduceLeDiff, Nat.reduceLT, s2.k, s2.r, s2.c, s2.p]
        refine seq_go ?_
        simp only [go_sem, Nat.reduceEqDiff, reduceIte, Nat.reduceAdd, Nat.reduceMul, Nat.reduceLeDiff, Nat.reduceLT, s2.k, s2.r, s2.c, s2.p]
        obtain ⟨v5001, hv5001, h⟩ := bindE h
        refine idx_m hv5001 (Agent.ds_len _) ?_
        simp only [go_sem, Nat.reduceEqDiff, reduceIte, Nat.reduceAdd, Nat.reduceMul, Nat.reduceLeDiff, Nat.reduceLT, s2.k, s2.r, s2.c, s2.p]
        obtain ⟨v6002, hv6002, h⟩ := bindE h
        refine idx_m hv6002 (Agent.ds_len _) ?_
        simp only [go_sem, Nat.reduceEqDiff, reduceIte, Nat.reduceAdd, Nat.reduceMul, Nat.reduceLeDiff, Nat.reduceLT, s2.k, s2.r, s2.c, s2.p]
        obtain ⟨v7003, hv7003, h⟩ := bindE h
        refine call_i (h2 _ _ _ hv7003) ?_
        simp only [go_sem, Nat.reduceEqDiff, reduceIte, Nat.reduceAdd, Nat.reduceMul, Nat.reduceLeDiff, Nat.reduceLT, s2.k, s2.r, s2.c, s2.p]
        refine cond_i (fun hb3 => ?_) (fun hb3 => ?_)
        · replace h := ifT (c := (!v7003)) hb3 h
          simp only [go_sem, Nat.reduceEqDiff, reduceIte, Nat.reduceAdd, Nat.reduceMul, Nat.reduceLeDiff, Nat.reduceLT, s2.k, s2.r, s2.c, s2.p]
          obtain rfl := Option.some.inj h
          simp only [go_sem, Nat.reduceEqDiff, reduceIte, Nat.reduceAdd, Nat.reduceMul, Nat.reduceLeDiff, Nat.reduceLT, s2.k, s2.r, s2.c, s2.p]
        · replace h := ifF (c := (!v7003)) hb3 h
          simp only [go_sem, Nat.reduceEqDiff, reduceIte, Nat.reduceAdd, Nat.reduceMul, Nat.reduceLeDiff, Nat.reduceLT, s2.k, s2.r, s2.c, s2.p]
          refine seq_go ?_
          simp only [go_sem, Nat.reduceEqDiff, reduceIte, Nat.reduceAdd, Nat.reduceMul, Nat.reduceLeDiff, Nat.reduceLT, s2.k, s2.r, s2.c, s2.p]
          have hj := posF_to rfl rfl (ih0 a0 a1 (IntKind.i64.wrap (p0_0 + 1)) f2 g2 c2 s2 h2 _ h)
          refine lp_to hj (.one ⟨_, .done _, [], [], ?_⟩)
          clear hj
          simp only [go_sem, Nat.reduceEqDiff, reduceIte, Nat.reduceAdd, Nat.reduceMul, Nat.reduceLeDiff, Nat.reduceLT, s2.k, s2.r, s2.c, s2.p]
      · replace h := ifF (c := (decide (p0_0 < ((List.length a0 : Nat) : Int)))) hb2 h
        simp only [go_sem, Nat.reduceEqDiff, reduceIte, Nat.reduceAdd, Nat.reduceMul, Nat.reduceLeDiff, Nat.reduceLT, s2.k, s2.r, s2.c, s2.p]
        refine seq_go ?_
        simp only [go_sem, Nat.reduceEqDiff, reduceIte, Nat.reduceAdd, Nat.reduceMul, Nat.reduceLeDiff, Nat.reduceLT, s2.k, s2.r, s2.c, s2.p]
        obtain rfl := Option.some.inj h
        simp only [go_sem, Nat.reduceEqDiff, reduceIte, Nat.reduceAdd, Nat.reduceMul, Nat.reduceLeDiff, Nat.reduceLT, s2.k, s2.r, s2.c, s2.p]
theorem g_EqualFunc_simpl_Agent_l1_ok (n : Nat) : (∀ (a0 : List Agent) (a1 : List Agent) (p0_0 : Int) (f2 : (Agent → Agent → Option Bool)) (g2 : FuncId) (c2 : List AV) (s2 : Still c2) (h2 : ∀ (y0 : Agent) (y1 : Agent) (q : Bool), f2 y0 y1 = some q → AC Try.prog g2 (.agg (Agent.avs y0) :: .agg (Agent.avs y1) :: c2) (.bool q)) (r : Bool), g_EqualFunc_simpl_Agent_l1 n a0 a1 p0_0 f2 = some r → posF Try.prog Try.f231 [1, 1, 0, 1, 0] (.bool r) ⟨[(1, .ro (List.map Agent.ds a1)), (2, .fn g2 c2), (15, .ro (List.map Agent.ds a0)), (16, .int .i64 ((List.length a0 : Nat) : Int)), (17, .int .i64 p0_0)], [], []⟩) := (g_EqualFunc_simpl_Agent_l1_all n)

theorem g_EqualFunc_simpl_Agent_ok (a0 : List Agent) (a1 : List Agent) (f2 : (Agent → Agent → Option Bool)) (g2 : FuncId) (c2 : List AV) (s2 : Still c2) (h2 : ∀ (y0 : Agent) (y1 : Agent) (q : Bool), f2 y0 y1 = some q → AC Try.prog g2 (.agg (Agent.avs y0) :: .agg (Agent.avs y1) :: c2) (.bool q)) (r : Bool) (h : g_EqualFunc_simpl_Agent a0 a1 f2 = some r) : AC Try.prog 231 [.ro (List.map Agent.ds a0), .ro (List.map Agent.ds a1), .fn g2 c2] (.bool r) := by
  unfold g_EqualFunc_simpl_Agent at h
  refine ac_fn mixed Try.func231 rfl rfl rfl (by kernel_rfl) (by kernel_rfl) ?_
  simp only [go_sem, Nat.reduceEqDiff, reduceIte, Nat.reduceAdd, Nat.reduceMul, Nat.reduceLeDiff, Nat.reduceLT, s2.k, s2.r, s2.c, s2.p]
  refine cond_i (fun hb1 => ?_) (fun hb1 => ?_)
  · replace h := ifT (c := (!decide (((List.length a0 : Nat) : Int) = ((List.length a1 : Nat) : Int)))) hb1 h
    simp only [go_sem, Nat.reduceEqDiff, reduceIte, Nat.reduceAdd, Nat.reduceMul, Nat.reduceLeDiff, Nat.reduceLT, s2.k, s2.r, s2.c, s2.p]
    obtain rfl := Option.some.inj h
    simp only [go_sem, Nat.reduceEqDiff, reduceIte, Nat.reduceAdd, Nat.reduceMul, Nat.reduceLeDiff, Nat.reduceLT, s2.k, s2.r, s2.c, s2.p]
  · replace h := ifF (c := (!decide (((List.length a0 : Nat) : Int) = ((List.length a1 : Nat) : Int)))) hb1 h
    simp only [go_sem, Nat.reduceEqDiff, reduceIte, Nat.reduceAdd, Nat.reduceMul, Nat.reduceLeDiff, Nat.reduceLT, s2.k, s2.r, s2.c, s2.p]
    refine seq_go ?_
    simp only [go_sem, Nat.reduceEqDiff, reduceIte, Nat.reduceAdd, Nat.reduceMul, Nat.reduceLeDiff, Nat.reduceLT, s2.k, s2.r, s2.c, s2.p]
    have hj := posF_to rfl rfl (g_EqualFunc_simpl_Agent_l1_ok fuel a0 a1 0 f2 g2 c2 s2 h2 _ h)
    refine loop_to hj (.one ⟨_, .done _, [], [], ?_⟩)
    clear hj
    simp only [go_sem, Nat.reduceEqDiff, reduceIte, Nat.reduceAdd, Nat.reduceMul, Nat.reduceLeDiff, Nat.reduceLT, s2.k, s2.r, s2.c, s2.p]
theorem g_Equal_simpl_Port_l1_all (n : Nat) : (∀ (a0 : List Port) (a1 : List Port) (p0_0 : Int) (r : Bool), g_Equal_simpl_Port_l1 n a0 a1 p0_0 = some r → posF Try.prog Try.f253 [1, 1, 0, 1, 0] (.bool r) ⟨[(0, .ro (List.map Port.ds a0)), (1, .ro (List.map Port.ds a1)), (12, .int .i64 ((List.length a0 : Nat) : Int)), (13, .int .i64 p0_0)], [], []⟩) := by
  induction n with
  | zero => exact ((fun _ _ _ _ h => by rw [g_Equal_simpl_Port_l1] at h; cases h))
  | succ n ih =>
    have ih0 := ih
    · intro a0 a1 p0_0 r h
      rw [g_Equal_simpl_Port_l1] at h
      refine posF_of rfl rfl ?_
      simp only [go_sem, Nat.reduceEqDiff, reduceIte, Nat.reduceAdd, Nat.reduceMul, Nat.reduceLeDiff, Nat.reduceLT]
      refine loop_i ?_
      simp only [go_sem, Nat.reduceEqDiff, reduceIte, Nat.reduceAdd, Nat.reduceMul, Nat.reduceLeDiff, Nat.reduceLT]
      refine cond_i (fun hb2 => ?_) (fun hb2 => ?_)
      · replace h := ifT (c := (decide (p0_0 < ((List.length a0 : Nat) : Int)))) hb2 h
        simp only [go_sem, Nat.reduceEqDiff, reduceIte, Nat.reduceAdd, Nat.reduceMul, Nat.reduceLeDiff, Nat.reduceLT]
        refine seq_go ?_
        simp only [go_sem, Nat.reduceEqDiff, reduceIte, Nat.reduceAdd, Nat.reduceMul, Nat.reduceLeDiff, Nat.reduceLT]
        obtain ⟨v6002, hv6002, h⟩ := bindE h
        refine idx_m hv6002 (Port.ds_len _) ?_
        simp only [go_sem, Nat.reduceEqDiff, reduceIte, Nat.reduceAdd, Nat.reduceMul, Nat.reduceLeDiff, Nat.reduceLT]
        obtain ⟨v6006, hv6006, h⟩ := bindE h
        refine idx_m hv6006 (Port.ds_len _) ?_
        simp only [go_sem, Nat.reduceEqDiff, reduceIte, Nat.reduceAdd, Nat.reduceMul, Nat.reduceLeDiff, Nat.reduceLT]
        refine cond_i (fun hb3 => ?_) (fun hb3 => ?_)
        · replace h := ifT (c := (!(decide (v6002.agent = v6006.agent) && decide (v6002.slot = v6006.slot)))) hb3 h
          simp only [go_sem, Nat.reduceEqDiff, reduceIte, Nat.reduceAdd, Nat.reduceMul, Nat.reduceLeDiff, Nat.reduceLT]
          obtain rfl := Option.some.inj h
          simp only [go_sem, Nat.reduceEqDiff, reduceIte, Nat.reduceAdd, Nat.reduceMul, Nat.reduceLeDiff, Nat.reduceLT]
        · replace h := ifF (c := (!(decide (v6002.agent = v6006.agent) && decide (v6002.slot = v6006.slot)))) hb3 h
          simp only [go_sem, Nat.reduceEqDiff, reduceIte, Nat.reduceAdd, Nat.reduceMul, Nat.reduceLeDiff, Nat.reduceLT]
          refine seq_go ?_
          simp only [go_sem, Nat.reduceEqDiff, reduceIte, Nat.reduceAdd, Nat.reduceMul, Nat.reduceLeDiff, Nat.reduceLT]
          have hj := posF_to rfl rfl (ih0 a0 a1 (IntKind.i64.wrap (p0_0 + 1)) _ h)
          refine lp_to hj (.one ⟨_, .done _, [], [], ?_⟩)
          clear hj
          simp only [go_sem, Nat.reduceEqDiff, reduceIte, Nat.reduceAdd, Nat.reduceMul, Nat.reduceLeDiff, Nat.reduceLT]
      · replace h := ifF (c := (decide (p0_0 < ((List.length a0 : Nat) : Int)))) hb2 h
        simp only [go_sem, Nat.reduceEqDiff, reduceIte, Nat.reduceAdd, Nat.reduceMul, Nat.reduceLeDiff, Nat.reduceLT]
        refine seq_go ?_
        simp only [go_sem, Nat.reduceEqDiff, reduceIte, Nat.reduceAdd, Nat.reduceMul, Nat.reduceLeDiff, Nat.reduceLT]
        obtain rfl := Option.some.inj h
        simp only [go_sem, Nat.reduceEqDiff, reduceIte, Nat.reduceAdd, Nat.reduceMul, Nat.reduceLeDiff, Nat.reduceLT]
theorem g_Equal_simpl_Port_l1_ok (n : Nat) : (∀ (a0 : List Port) (a1 : List Port) (p0_0 : Int) (r : Bool), g_Equal_simpl_Port_l1 n a0 a1 p0_0 = some r → posF Try.prog Try.f253 [1, 1, 0, 1, 0] (.bool r) ⟨[(0, .ro (List.map Port.ds a0)), (1, .ro (List.map Port.ds a1)), (12, .int .i64 ((List.length a0 : Nat) : Int)), (13, .int .i64 p0_0)], [], []⟩) := (g_Equal_simpl_Port_l1_all n)

theorem g_Equal_simpl_Port_ok (a0 : List Port) (a1 : List Port) (r : Bool) (h : g_Equal_simpl_Port a0 a1 = some r) : AC Try.prog 253 [.ro (List.map Port.ds a0), .ro (List.map Port.ds a1)] (.bool r) := by
  unfold g_Equal_simpl_Port at h
  refine ac_fn mixed Try.func253 rfl rfl rfl (by kernel_rfl) (by kernel_rfl) ?_
  simp only [go_sem, Nat.reduceEqDiff, reduceIte, Nat.reduceAdd, Nat.reduceMul, Nat.reduceLeDiff, Nat.reduceLT]
  refine cond_i (fun hb1 => ?_) (fun hb1 => ?_)
  · replace h := ifT (c := (!decide (((List.length a0 : Nat) : Int) = ((List.length a1 : Nat) : Int)))) hb1 h
    simp only [go_sem, Nat.reduceEqDiff, reduceIte, Nat.reduceAdd, Nat.reduceMul, Nat.reduceLeDiff, Nat.reduceLT]
    obtain rfl := Option.some.inj h
    simp only [go_sem, Nat.reduceEqDiff, reduceIte, Nat.reduceAdd, Nat.reduceMul, Nat.reduceLeDiff, Nat.reduceLT]
  · replace h := ifF (c := (!decide (((List.length a0 : Nat) : Int) = ((List.length a1 : Nat) : Int)))) hb1 h
    simp only [go_sem, Nat.reduceEqDiff, reduceIte, Nat.reduceAdd, Nat.reduceMul, Nat.reduceLeDiff, Nat.reduceLT]
    refine seq_go ?_
    simp only [go_sem, Nat.reduceEqDiff, reduceIte, Nat.reduceAdd, Nat.reduceMul, Nat.reduceLeDiff, Nat.reduceLT]
    have hj := posF_to rfl rfl (g_Equal_simpl_Port_l1_ok fuel a0 a1 0 _ h)
    refine loop_to hj (.one ⟨_, .done _, [], [], ?_⟩)
    clear hj
    simp only [go_sem, Nat.reduceEqDiff, reduceIte, Nat.reduceAdd, Nat.reduceMul, Nat.reduceLeDiff, Nat.reduceLT]
theorem i_sameAgent_ok (a0 : Agent) (a1 : Agent) (r : Bool) (h : i_sameAgent a0 a1 = some r) : AC Try.prog 232 [.agg (Agent.avs a0), .agg (Agent.avs a1)] (.bool r) := by
  unfold i_sameAgent at h
  refine ac_fn mixed Try.func232 rfl rfl rfl (by kernel_rfl) (by kernel_rfl) ?_
  simp only [go_sem, Nat.reduceEqDiff, reduceIte, Nat.reduceAdd, Nat.reduceMul, Nat.reduceLeDiff, Nat.reduceLT]
  refine cond_i (fun hb1 => ?_) (fun hb1 => ?_)
  · replace h := ifT (c := (decide (a0.kind = a1.kind))) hb1 h
    simp only [go_sem, Nat.reduceEqDiff, reduceIte, Nat.reduceAdd, Nat.reduceMul, Nat.reduceLeDiff, Nat.reduceLT]
    refine cond_i (fun hb2 => ?_) (fun hb2 => ?_)
    · replace h := ifT (c := (decide (a0.level = a1.level))) hb2 h
      simp only [go_sem, Nat.reduceEqDiff, reduceIte, Nat.reduceAdd, Nat.reduceMul, Nat.reduceLeDiff, Nat.reduceLT]
      refine cond_i (fun hb3 => ?_) (fun hb3 => ?_)
      · replace h := ifT (c := (decide (a0.value = a1.value))) hb3 h
        simp only [go_sem, Nat.reduceEqDiff, reduceIte, Nat.reduceAdd, Nat.reduceMul, Nat.reduceLeDiff, Nat.reduceLT]
        obtain ⟨v1024, hv1024, h⟩ := bindE h
        refine call_i (g_Equal_sint64_ok _ _ _ hv1024) ?_
        simp only [go_sem, Nat.reduceEqDiff, reduceIte, Nat.reduceAdd, Nat.reduceMul, Nat.reduceLeDiff, Nat.reduceLT]
        refine cond_i (fun hb4 => ?_) (fun hb4 => ?_)
        · replace h := ifT (c := v1024) hb4 h
          simp only [go_sem, Nat.reduceEqDiff, reduceIte, Nat.reduceAdd, Nat.reduceMul, Nat.reduceLeDiff, Nat.reduceLT]
          obtain ⟨v1031, hv1031, h⟩ := bindE h
          refine call_i (g_Equal_simpl_Port_ok _ _ _ hv1031) ?_
          simp only [go_sem, Nat.reduceEqDiff, reduceIte, Nat.reduceAdd, Nat.reduceMul, Nat.reduceLeDiff, Nat.reduceLT]
          refine seq_go ?_
          simp only [go_sem, Nat.reduceEqDiff, reduceIte, Nat.reduceAdd, Nat.reduceMul, Nat.reduceLeDiff, Nat.reduceLT]
          obtain rfl := Option.some.inj h
          simp only [go_sem, Nat.reduceEqDiff, reduceIte, Nat.reduceAdd, Nat.reduceMul, Nat.reduceLeDiff, Nat.reduceLT]
        · replace h := ifF (c := v1024) hb4 h
          simp only [go_sem, Nat.reduceEqDiff, reduceIte, Nat.reduceAdd, Nat.reduceMul, Nat.reduceLeDiff, Nat.reduceLT]
          refine seq_go ?_
          simp only [go_sem, Nat.reduceEqDiff, reduceIte, Nat.reduceAdd, Nat.reduceMul, Nat.reduceLeDiff, Nat.reduceLT]
          obtain rfl := Option.some.inj h
          simp only [go_sem, Nat.reduceEqDiff, reduceIte, Nat.reduceAdd, Nat.reduceMul, Nat.reduceLeDiff, Nat.reduceLT]
      · replace h := ifF (c := (decide (a0.value = a1.value))) hb3 h
        simp only [go_sem, Nat.reduceEqDiff, reduceIte, Nat.reduceAdd, Nat.reduceMul, Nat.reduceLeDiff, Nat.reduceLT]
        refine seq_go ?_
        simp only [go_sem, Nat.reduceEqDiff, reduceIte, Nat.reduceAdd, Nat.reduceMul, Nat.reduceLeDiff, Nat.reduceLT]
        obtain rfl := Option.some.inj h
        simp only [go_sem, Nat.reduceEqDiff, reduceIte, Nat.reduceAdd, Nat.reduceMul, Nat.reduceLeDiff, Nat.reduceLT]
    · replace h := ifF (c := (decide (a0.level = a1.level))) hb2 h
      simp only [go_sem, Nat.reduceEqDiff, reduceIte, Nat.reduceAdd, Nat.reduceMul, Nat.reduceLeDiff, Nat.reduceLT]
      refine seq_go ?_
      simp only [go_sem, Nat.reduceEqDiff, reduceIte, Nat.reduceAdd, Nat.reduceMul, Nat.reduceLeDiff, Nat.reduceLT]
      obtain rfl := Option.some.inj h
      simp only [go_sem, Nat.reduceEqDiff, reduceIte, Nat.reduceAdd, Nat.reduceMul, Nat.reduceLeDiff, Nat.reduceLT]
  · replace h := ifF (c := (decide (a0.kind = a1.kind))) hb1 h
    simp only [go_sem, Nat.reduceEqDiff, reduceIte, Nat.reduceAdd, Nat.reduceMul, Nat.reduceLeDiff, Nat.reduceLT]
    refine seq_go ?_
    simp only [go_sem, Nat.reduceEqDiff, reduceIte, Nat.reduceAdd, Nat.reduceMul, Nat.reduceLeDiff, Nat.reduceLT]
    obtain rfl := Option.some.inj h
    simp only [go_sem, Nat.reduceEqDiff, reduceIte, Nat.reduceAdd, Nat.reduceMul, Nat.reduceLeDiff, Nat.reduceLT]
theorem i_SameNet_ok (a0 : Net) (a1 : Net) (r : Bool) (h : i_SameNet a0 a1 = some r) : AC Try.prog 186 [.agg (Net.avs a0), .agg (Net.avs a1)] (.bool r) := by
  unfold i_SameNet at h
  refine ac_fn mixed Try.func186 rfl rfl rfl (by kernel_rfl) (by kernel_rfl) ?_
  simp only [go_sem, Nat.reduceEqDiff, reduceIte, Nat.reduceAdd, Nat.reduceMul, Nat.reduceLeDiff, Nat.reduceLT]
  obtain ⟨v1004, hv1004, h⟩ := bindE h
  refine call_i (g_EqualFunc_simpl_Agent_ok _ _ _ 232 [] (Still.of rfl) (fun y0 y1 q hq => i_sameAgent_ok y0 y1  q hq) _ hv1004) ?_
  simp only [go_sem, Nat.reduceEqDiff, reduceIte, Nat.reduceAdd, Nat.reduceMul, Nat.reduceLeDiff, Nat.reduceLT]
  obtain rfl := Option.some.inj h
  simp only [go_sem, Nat.reduceEqDiff, reduceIte, Nat.reduceAdd, Nat.reduceMul, Nat.reduceLeDiff, Nat.reduceLT]
theorem i_sameJob_ok (a0 : Job) (a1 : Job) (r : Bool) (h : i_sameJob a0 a1 = some r) : AC Try.prog 110 [.agg (Job.avs a0), .agg (Job.avs a1)] (.bool r) := by
  unfold i_sameJob at h
  refine ac_fn mixed Try.func110 rfl rfl rfl (by kernel_rfl) (by kernel_rfl) ?_
  simp only [go_sem, Nat.reduceEqDiff, reduceIte, Nat.reduceAdd, Nat.reduceMul, Nat.reduceLeDiff, Nat.reduceLT]
  refine cond_i (fun hb1 => ?_) (fun hb1 => ?_)
  · replace h := ifT (c := (decide (a0.id = a1.id))) hb1 h
    simp only [go_sem, Nat.reduceEqDiff, reduceIte, Nat.reduceAdd, Nat.reduceMul, Nat.reduceLeDiff, Nat.reduceLT]
    refine cond_i (fun hb2 => ?_) (fun hb2 => ?_)
    · replace h := ifT (c := (decide (a0.weight = a1.weight))) hb2 h
      simp only [go_sem, Nat.reduceEqDiff, reduceIte, Nat.reduceAdd, Nat.reduceMul, Nat.reduceLeDiff, Nat.reduceLT]
      refine cond_i (fun hb3 => ?_) (fun hb3 => ?_)
      · replace h := ifT (c := (decide (a0.state = a1.state))) hb3 h
        simp only [go_sem, Nat.reduceEqDiff, reduceIte, Nat.reduceAdd, Nat.reduceMul, Nat.reduceLeDiff, Nat.reduceLT]
        refine cond_i (fun hb4 => ?_) (fun hb4 => ?_)
        · replace h := ifT (c := (decide (a0.code = a1.code))) hb4 h
          simp only [go_sem, Nat.reduceEqDiff, reduceIte, Nat.reduceAdd, Nat.reduceMul, Nat.reduceLeDiff, Nat.reduceLT]
          refine cond_i (fun hb5 => ?_) (fun hb5 => ?_)
          · replace h := ifT (c := (decide (a0.left = a1.left))) hb5 h
            simp only [go_sem, Nat.reduceEqDiff, reduceIte, Nat.reduceAdd, Nat.reduceMul, Nat.reduceLeDiff, Nat.reduceLT]
            refine cond_i (fun hb6 => ?_) (fun hb6 => ?_)
            · replace h := ifT (c := (decide (a0.slices = a1.slices))) hb6 h
              simp only [go_sem, Nat.reduceEqDiff, reduceIte, Nat.reduceAdd, Nat.reduceMul, Nat.reduceLeDiff, Nat.reduceLT]
              obtain ⟨v1045, hv1045, h⟩ := bindE h
              refine call_i (g_Equal_sint64_ok _ _ _ hv1045) ?_
              simp only [go_sem, Nat.reduceEqDiff, reduceIte, Nat.reduceAdd, Nat.reduceMul, Nat.reduceLeDiff, Nat.reduceLT]
              refine cond_i (fun hb7 => ?_) (fun hb7 => ?_)
              · replace h := ifT (c := v1045) hb7 h
                simp only [go_sem, Nat.reduceEqDiff, reduceIte, Nat.reduceAdd, Nat.reduceMul, Nat.reduceLeDiff, Nat.reduceLT]
                obtain ⟨v1052, hv1052, h⟩ := bindE h
                refine call_i (g_Equal_sint64_ok _ _ _ hv1052) ?_
                simp only [go_sem, Nat.reduceEqDiff, reduceIte, Nat.reduceAdd, Nat.reduceMul, Nat.reduceLeDiff, Nat.reduceLT]
                refine cond_i (fun hb8 => ?_) (fun hb8 => ?_)
                · replace h := ifT (c := v1052) hb8 h
                  simp only [go_sem, Nat.reduceEqDiff, reduceIte, Nat.reduceAdd, Nat.reduceMul, Nat.reduceLeDiff, Nat.reduceLT]
                  obtain ⟨v1059, hv1059, h⟩ := bindE h
                  refine call_i (g_EqualFunc_simpl_Net_ok _ _ _ 186 [] (Still.of rfl) (fun y0 y1 q hq => i_SameNet_ok y0 y1  q hq) _ hv1059) ?_
                  simp only [go_sem, Nat.reduceEqDiff, reduceIte, Nat.reduceAdd, Nat.reduceMul, Nat.reduceLeDiff, Nat.reduceLT]
                  refine cond_i (fun hb9 => ?_) (fun hb9 => ?_)
                  · replace h := ifT (c := v1059) hb9 h
                    simp only [go_sem, Nat.reduceEqDiff, reduceIte, Nat.reduceAdd, Nat.reduceMul, Nat.reduceLeDiff, Nat.reduceLT]
                    obtain ⟨v1066, hv1066, h⟩ := bindE h
                    refine call_i (i_SameNet_ok _ _ _ hv1066) ?_
                    simp only [go_sem, Nat.reduceEqDiff, reduceIte, Nat.reduceAdd, Nat.reduceMul, Nat.reduceLeDiff, Nat.reduceLT]
                    refine seq_go ?_
                    simp only [go_sem, Nat.reduceEqDiff, reduceIte, Nat.reduceAdd, Nat.reduceMul, Nat.reduceLeDiff, Nat.reduceLT]
                    obtain rfl := Option.some.inj h
                    simp only [go_sem, Nat.reduceEqDiff, reduceIte, Nat.reduceAdd, Nat.reduceMul, Nat.reduceLeDiff, Nat.reduceLT]
                  · replace h := ifF (c := v1059) hb9 h
                    simp only [go_sem, Nat.reduceEqDiff, reduceIte, Nat.reduceAdd, Nat.reduceMul, Nat.reduceLeDiff, Nat.reduceLT]
                    refine seq_go ?_
                    simp only [go_sem, Nat.reduceEqDiff, reduceIte, Nat.reduceAdd, Nat.reduceMul, Nat.reduceLeDiff, Nat.reduceLT]
                    obtain rfl := Option.some.inj h
                    simp only [go_sem, Nat.reduceEqDiff, reduceIte, Nat.reduceAdd, Nat.reduceMul, Nat.reduceLeDiff, Nat.reduceLT]
                · replace h := ifF (c := v1052) hb8 h
                  simp only [go_sem, Nat.reduceEqDiff, reduceIte, Nat.reduceAdd, Nat.reduceMul, Nat.reduceLeDiff, Nat.reduceLT]
                  refine seq_go ?_
                  simp only [go_sem, Nat.reduceEqDiff, reduceIte, Nat.reduceAdd, Nat.reduceMul, Nat.reduceLeDiff, Nat.reduceLT]
                  obtain rfl := Option.some.inj h
                  simp only [go_sem, Nat.reduceEqDiff, reduceIte, Nat.reduceAdd, Nat.reduceMul, Nat.reduceLeDiff, Nat.reduceLT]
              · replace h := ifF (c := v1045) hb7 h
                simp only [go_sem, Nat.reduceEqDiff, reduceIte, Nat.reduceAdd, Nat.reduceMul, Nat.reduceLeDiff, Nat.reduceLT]
                refine seq_go ?_
                simp only [go_sem, Nat.reduceEqDiff, reduceIte, Nat.reduceAdd, Nat.reduceMul, Nat.reduceLeDiff, Nat.reduceLT]
                obtain rfl := Option.some.inj h
                simp only [go_sem, Nat.reduceEqDiff, reduceIte, Nat.reduceAdd, Nat.reduceMul, Nat.reduceLeDiff, Nat.reduceLT]
            · replace h := ifF (c := (decide (a0.slices = a1.slices))) hb6 h
              simp only [go_sem, Nat.reduceEqDiff, reduceIte, Nat.reduceAdd, Nat.reduceMul, Nat.reduceLeDiff, Nat.reduceLT]
              refine seq_go ?_
              simp only [go_sem, Nat.reduceEqDiff, reduceIte, Nat.reduceAdd, Nat.reduceMul, Nat.reduceLeDiff, Nat.reduceLT]
              obtain rfl := Option.some.inj h
              simp only [go_sem, Nat.reduceEqDiff, reduceIte, Nat.reduceAdd, Nat.reduceMul, Nat.reduceLeDiff, Nat.reduceLT]
          · replace h := ifF (c := (decide (a0.left = a1.left))) hb5 h
            simp only [go_sem, Nat.reduceEqDiff, reduceIte, Nat.reduceAdd, Nat.reduceMul, Nat.reduceLeDiff, Nat.reduceLT]
            refine seq_go ?_
            simp only [go_sem, Nat.reduceEqDiff, reduceIte, Nat.reduceAdd, Nat.reduceMul, Nat.reduceLeDiff, Nat.reduceLT]
            obtain rfl := Option.some.inj h
            simp only [go_sem, Nat.reduceEqDiff, reduceIte, Nat.reduceAdd, Nat.reduceMul, Nat.reduceLeDiff, Nat.reduceLT]
        · replace h := ifF (c := (decide (a0.code = a1.code))) hb4 h
          simp only [go_sem, Nat.reduceEqDiff, reduceIte, Nat.reduceAdd, Nat.reduceMul, Nat.reduceLeDiff, Nat.reduceLT]
          refine seq_go ?_
          simp only [go_sem, Nat.reduceEqDiff, reduceIte, Nat.reduceAdd, Nat.reduceMul, Nat.reduceLeDiff, Nat.reduceLT]
          obtain rfl := Option.some.inj h
          simp only [go_sem, Nat.reduceEqDiff, reduceIte, Nat.reduceAdd, Nat.reduceMul, Nat.reduceLeDiff, Nat.reduceLT]
      · replace h := ifF (c := (decide (a0.state = a1.state))) hb3 h
        simp only [go_sem, Nat.reduceEqDiff, reduceIte, Nat.reduceAdd, Nat.reduceMul, Nat.reduceLeDiff, Nat.reduceLT]
        refine seq_go ?_
        simp only [go_sem, Nat.reduceEqDiff, reduceIte, Nat.reduceAdd, Nat.reduceMul, Nat.reduceLeDiff, Nat.reduceLT]
        obtain rfl := Option.some.inj h
        simp only [go_sem, Nat.reduceEqDiff, reduceIte, Nat.reduceAdd, Nat.reduceMul, Nat.reduceLeDiff, Nat.reduceLT]
    · replace h := ifF (c := (decide (a0.weight = a1.weight))) hb2 h
      simp only [go_sem, Nat.reduceEqDiff, reduceIte, Nat.reduceAdd, Nat.reduceMul, Nat.reduceLeDiff, Nat.reduceLT]
      refine seq_go ?_
      simp only [go_sem, Nat.reduceEqDiff, reduceIte, Nat.reduceAdd, Nat.reduceMul, Nat.reduceLeDiff, Nat.reduceLT]
      obtain rfl := Option.some.inj h
      simp only [go_sem, Nat.reduceEqDiff, reduceIte, Nat.reduceAdd, Nat.reduceMul, Nat.reduceLeDiff, Nat.reduceLT]
  · replace h := ifF (c := (decide (a0.id = a1.id))) hb1 h
    simp only [go_sem, Nat.reduceEqDiff, reduceIte, Nat.reduceAdd, Nat.reduceMul, Nat.reduceLeDiff, Nat.reduceLT]
    refine seq_go ?_
    simp only [go_sem, Nat.reduceEqDiff, reduceIte, Nat.reduceAdd, Nat.reduceMul, Nat.reduceLeDiff, Nat.reduceLT]
    obtain rfl := Option.some.inj h
    simp only [go_sem, Nat.reduceEqDiff, reduceIte, Nat.reduceAdd, Nat.reduceMul, Nat.reduceLeDiff, Nat.reduceLT]
theorem i_SameQueue_ok (a0 : Queue) (a1 : Queue) (r : Bool) (h : i_SameQueue a0 a1 = some r) : AC Try.prog 48 [.agg (Queue.avs a0), .agg (Queue.avs a1)] (.bool r) := by
  unfold i_SameQueue at h
  refine ac_fn mixed Try.func48 rfl rfl rfl (by kernel_rfl) (by kernel_rfl) ?_
  simp only [go_sem, Nat.reduceEqDiff, reduceIte, Nat.reduceAdd, Nat.reduceMul, Nat.reduceLeDiff, Nat.reduceLT]
  refine cond_i (fun hb1 => ?_) (fun hb1 => ?_)
  · replace h := ifT (c := (decide (a0.quantum = a1.quantum))) hb1 h
    simp only [go_sem, Nat.reduceEqDiff, reduceIte, Nat.reduceAdd, Nat.reduceMul, Nat.reduceLeDiff, Nat.reduceLT]
    refine cond_i (fun hb2 => ?_) (fun hb2 => ?_)
    · replace h := ifT (c := (decide (a0.nextId = a1.nextId))) hb2 h
      simp only [go_sem, Nat.reduceEqDiff, reduceIte, Nat.reduceAdd, Nat.reduceMul, Nat.reduceLeDiff, Nat.reduceLT]
      refine cond_i (fun hb3 => ?_) (fun hb3 => ?_)
      · replace h := ifT (c := (decide (a0.turn = a1.turn))) hb3 h
        simp only [go_sem, Nat.reduceEqDiff, reduceIte, Nat.reduceAdd, Nat.reduceMul, Nat.reduceLeDiff, Nat.reduceLT]
        obtain ⟨v1024, hv1024, h⟩ := bindE h
        refine call_i (g_EqualFunc_simpl_Job_ok _ _ _ 110 [] (Still.of rfl) (fun y0 y1 q hq => i_sameJob_ok y0 y1  q hq) _ hv1024) ?_
        simp only [go_sem, Nat.reduceEqDiff, reduceIte, Nat.reduceAdd, Nat.reduceMul, Nat.reduceLeDiff, Nat.reduceLT]
        refine seq_go ?_
        simp only [go_sem, Nat.reduceEqDiff, reduceIte, Nat.reduceAdd, Nat.reduceMul, Nat.reduceLeDiff, Nat.reduceLT]
        obtain rfl := Option.some.inj h
        simp only [go_sem, Nat.reduceEqDiff, reduceIte, Nat.reduceAdd, Nat.reduceMul, Nat.reduceLeDiff, Nat.reduceLT]
      · replace h := ifF (c := (decide (a0.turn = a1.turn))) hb3 h
        simp only [go_sem, Nat.reduceEqDiff, reduceIte, Nat.reduceAdd, Nat.reduceMul, Nat.reduceLeDiff, Nat.reduceLT]
        refine seq_go ?_
        simp only [go_sem, Nat.reduceEqDiff, reduceIte, Nat.reduceAdd, Nat.reduceMul, Nat.reduceLeDiff, Nat.reduceLT]
        obtain rfl := Option.some.inj h
        simp only [go_sem, Nat.reduceEqDiff, reduceIte, Nat.reduceAdd, Nat.reduceMul, Nat.reduceLeDiff, Nat.reduceLT]
    · replace h := ifF (c := (decide (a0.nextId = a1.nextId))) hb2 h
      simp only [go_sem, Nat.reduceEqDiff, reduceIte, Nat.reduceAdd, Nat.reduceMul, Nat.reduceLeDiff, Nat.reduceLT]
      refine seq_go ?_
      simp only [go_sem, Nat.reduceEqDiff, reduceIte, Nat.reduceAdd, Nat.reduceMul, Nat.reduceLeDiff, Nat.reduceLT]
      obtain rfl := Option.some.inj h
      simp only [go_sem, Nat.reduceEqDiff, reduceIte, Nat.reduceAdd, Nat.reduceMul, Nat.reduceLeDiff, Nat.reduceLT]
  · replace h := ifF (c := (decide (a0.quantum = a1.quantum))) hb1 h
    simp only [go_sem, Nat.reduceEqDiff, reduceIte, Nat.reduceAdd, Nat.reduceMul, Nat.reduceLeDiff, Nat.reduceLT]
    refine seq_go ?_
    simp only [go_sem, Nat.reduceEqDiff, reduceIte, Nat.reduceAdd, Nat.reduceMul, Nat.reduceLeDiff, Nat.reduceLT]
    obtain rfl := Option.some.inj h
    simp only [go_sem, Nat.reduceEqDiff, reduceIte, Nat.reduceAdd, Nat.reduceMul, Nat.reduceLeDiff, Nat.reduceLT]
theorem l_FnExactSameQueue_ok (a0 : Queue) (a1 : Queue) (r : Bool) (h : l_FnExactSameQueue a0 a1 = some r) : AC Try.prog 8 [.agg (Queue.avs a0), .agg (Queue.avs a1)] (.bool r) := by
  unfold l_FnExactSameQueue at h
  refine ac_fn mixed Try.func8 rfl rfl rfl (by kernel_rfl) (by kernel_rfl) ?_
  simp only [go_sem, Nat.reduceEqDiff, reduceIte, Nat.reduceAdd, Nat.reduceMul, Nat.reduceLeDiff, Nat.reduceLT]
  obtain ⟨v2002, hv2002, h⟩ := bindE h
  refine call_i (l_szQueue_ok _ _ _ hv2002) ?_
  simp only [go_sem, Nat.reduceEqDiff, reduceIte, Nat.reduceAdd, Nat.reduceMul, Nat.reduceLeDiff, Nat.reduceLT]
  refine cond_i (fun hb1 => ?_) (fun hb1 => ?_)
  · replace h := ifT (c := (decide (v2002 < 0))) hb1 h
    simp only [go_sem, Nat.reduceEqDiff, reduceIte, Nat.reduceAdd, Nat.reduceMul, Nat.reduceLeDiff, Nat.reduceLT]
    obtain rfl := Option.some.inj h
    simp only [go_sem, Nat.reduceEqDiff, reduceIte, Nat.reduceAdd, Nat.reduceMul, Nat.reduceLeDiff, Nat.reduceLT]
  · replace h := ifF (c := (decide (v2002 < 0))) hb1 h
    simp only [go_sem, Nat.reduceEqDiff, reduceIte, Nat.reduceAdd, Nat.reduceMul, Nat.reduceLeDiff, Nat.reduceLT]
    refine seq_go ?_
    simp only [go_sem, Nat.reduceEqDiff, reduceIte, Nat.reduceAdd, Nat.reduceMul, Nat.reduceLeDiff, Nat.reduceLT]
    obtain ⟨v5002, hv5002, h⟩ := bindE h
    refine call_i (l_szQueue_ok _ _ _ hv5002) ?_
    simp only [go_sem, Nat.reduceEqDiff, reduceIte, Nat.reduceAdd, Nat.reduceMul, Nat.reduceLeDiff, Nat.reduceLT]
    refine cond_i (fun hb2 => ?_) (fun hb2 => ?_)
    · replace h := ifT (c := (decide (v5002 < 0))) hb2 h
      simp only [go_sem, Nat.reduceEqDiff, reduceIte, Nat.reduceAdd, Nat.reduceMul, Nat.reduceLeDiff, Nat.reduceLT]
      obtain rfl := Option.some.inj h
      simp only [go_sem, Nat.reduceEqDiff, reduceIte, Nat.reduceAdd, Nat.reduceMul, Nat.reduceLeDiff, Nat.reduceLT]
    · replace h := ifF (c := (decide (v5002 < 0))) hb2 h
      simp only [go_sem, Nat.reduceEqDiff, reduceIte, Nat.reduceAdd, Nat.reduceMul, Nat.reduceLeDiff, Nat.reduceLT]
      refine seq_go ?_
      simp only [go_sem, Nat.reduceEqDiff, reduceIte, Nat.reduceAdd, Nat.reduceMul, Nat.reduceLeDiff, Nat.reduceLT]
      obtain ⟨v8001, hv8001, h⟩ := bindE h
      refine call_i (l_toQueue_ok _ _ hv8001) ?_
      simp only [go_sem, Nat.reduceEqDiff, reduceIte, Nat.reduceAdd, Nat.reduceMul, Nat.reduceLeDiff, Nat.reduceLT]
      obtain ⟨v8003, hv8003, h⟩ := bindE h
      refine call_i (l_toQueue_ok _ _ hv8003) ?_
      simp only [go_sem, Nat.reduceEqDiff, reduceIte, Nat.reduceAdd, Nat.reduceMul, Nat.reduceLeDiff, Nat.reduceLT]
      obtain ⟨v8004, hv8004, h⟩ := bindE h
      refine call_i (s_SameQueue_ok _ _ _ hv8004) ?_
      simp only [go_sem, Nat.reduceEqDiff, reduceIte, Nat.reduceAdd, Nat.reduceMul, Nat.reduceLeDiff, Nat.reduceLT]
      obtain ⟨v9001, hv9001, h⟩ := bindE h
      refine call_i (l_toQueue_ok _ _ hv9001) ?_
      simp only [go_sem, Nat.reduceEqDiff, reduceIte, Nat.reduceAdd, Nat.reduceMul, Nat.reduceLeDiff, Nat.reduceLT]
      obtain ⟨v10001, hv10001, h⟩ := bindE h
      refine call_i (l_toQueue_ok _ _ hv10001) ?_
      simp only [go_sem, Nat.reduceEqDiff, reduceIte, Nat.reduceAdd, Nat.reduceMul, Nat.reduceLeDiff, Nat.reduceLT]
      obtain ⟨v11002, hv11002, h⟩ := bindE h
      refine call_i (i_SameQueue_ok _ _ _ hv11002) ?_
      simp only [go_sem, Nat.reduceEqDiff, reduceIte, Nat.reduceAdd, Nat.reduceMul, Nat.reduceLeDiff, Nat.reduceLT]
      refine cond_i (fun hb3 => ?_) (fun hb3 => ?_)
      · replace h := ifT (c := (!(v11002 == v8004))) hb3 h
        simp only [go_sem, Nat.reduceEqDiff, reduceIte, Nat.reduceAdd, Nat.reduceMul, Nat.reduceLeDiff, Nat.reduceLT]
        obtain rfl := Option.some.inj h
        simp only [go_sem, Nat.reduceEqDiff, reduceIte, Nat.reduceAdd, Nat.reduceMul, Nat.reduceLeDiff, Nat.reduceLT]
      · replace h := ifF (c := (!(v11002 == v8004))) hb3 h
        simp only [go_sem, Nat.reduceEqDiff, reduceIte, Nat.reduceAdd, Nat.reduceMul, Nat.reduceLeDiff, Nat.reduceLT]
        refine seq_go ?_
        simp only [go_sem, Nat.reduceEqDiff, reduceIte, Nat.reduceAdd, Nat.reduceMul, Nat.reduceLeDiff, Nat.reduceLT]
        obtain ⟨v14002, hv14002, h⟩ := bindE h
        refine call_i (l_toQueue_ok _ _ hv14002) ?_
        simp only [go_sem, Nat.reduceEqDiff, reduceIte, Nat.reduceAdd, Nat.reduceMul, Nat.reduceLeDiff, Nat.reduceLT]
        obtain ⟨v14003, hv14003, h⟩ := bindE h
        refine call_i (l_eqQueue_ok _ _ _ hv14003) ?_
        simp only [go_sem, Nat.reduceEqDiff, reduceIte, Nat.reduceAdd, Nat.reduceMul, Nat.reduceLeDiff, Nat.reduceLT]
        refine cond_i (fun hb4 => ?_) (fun hb4 => ?_)
        · replace h := ifT (c := (!v14003)) hb4 h
          simp only [go_sem, Nat.reduceEqDiff, reduceIte, Nat.reduceAdd, Nat.reduceMul, Nat.reduceLeDiff, Nat.reduceLT]
          obtain rfl := Option.some.inj h
          simp only [go_sem, Nat.reduceEqDiff, reduceIte, Nat.reduceAdd, Nat.reduceMul, Nat.reduceLeDiff, Nat.reduceLT]
        · replace h := ifF (c := (!v14003)) hb4 h
          simp only [go_sem, Nat.reduceEqDiff, reduceIte, Nat.reduceAdd, Nat.reduceMul, Nat.reduceLeDiff, Nat.reduceLT]
          refine seq_go ?_
          simp only [go_sem, Nat.reduceEqDiff, reduceIte, Nat.reduceAdd, Nat.reduceMul, Nat.reduceLeDiff, Nat.reduceLT]
          obtain ⟨v16002, hv16002, h⟩ := bindE h
          refine call_i (l_toQueue_ok _ _ hv16002) ?_
          simp only [go_sem, Nat.reduceEqDiff, reduceIte, Nat.reduceAdd, Nat.reduceMul, Nat.reduceLeDiff, Nat.reduceLT]
          obtain ⟨v16003, hv16003, h⟩ := bindE h
          refine call_i (l_eqQueue_ok _ _ _ hv16003) ?_
          simp only [go_sem, Nat.reduceEqDiff, reduceIte, Nat.reduceAdd, Nat.reduceMul, Nat.reduceLeDiff, Nat.reduceLT]
          refine cond_i (fun hb5 => ?_) (fun hb5 => ?_)
          · replace h := ifT (c := (!v16003)) hb5 h
            simp only [go_sem, Nat.reduceEqDiff, reduceIte, Nat.reduceAdd, Nat.reduceMul, Nat.reduceLeDiff, Nat.reduceLT]
            obtain rfl := Option.some.inj h
            simp only [go_sem, Nat.reduceEqDiff, reduceIte, Nat.reduceAdd, Nat.reduceMul, Nat.reduceLeDiff, Nat.reduceLT]
          · replace h := ifF (c := (!v16003)) hb5 h
            simp only [go_sem, Nat.reduceEqDiff, reduceIte, Nat.reduceAdd, Nat.reduceMul, Nat.reduceLeDiff, Nat.reduceLT]
            refine seq_go ?_
            simp only [go_sem, Nat.reduceEqDiff, reduceIte, Nat.reduceAdd, Nat.reduceMul, Nat.reduceLeDiff, Nat.reduceLT]
            obtain rfl := Option.some.inj h
            simp only [go_sem, Nat.reduceEqDiff, reduceIte, Nat.reduceAdd, Nat.reduceMul, Nat.reduceLeDiff, Nat.reduceLT]
end Go.Proofs.Ytfbnlkaggggmiaa.Ab
