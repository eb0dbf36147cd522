/-
  The functions do what their models say. Printed by wip/ab/gen.py.
-/
import Derived.Test.YtfbnlkaggggmiaaModN
import Derived.Test.YtfbnlkaggggmiaaTi2
import Derived.Test.YtfbnlkaggggmiaaWlk
namespace Go.Proofs.Ytfbnlkaggggmiaa.Ab
set_option linter.unusedVariables false
set_option linter.unusedSimpArgs false
set_option maxRecDepth 20000
set_option maxHeartbeats 4000000
open Go.RowKit

theorem s_NewQueue_ok (a0 : Int) (r : Queue × Int) (h : s_NewQueue a0 = some r) : AC Try.prog 14 [.int .i64 a0] (.tup [.agg (Queue.rv r.1), .int .i64 r.2]) := by
  unfold s_NewQueue at h
  refine ac_fn mixed Try.func14 rfl rfl rfl (by kernel_rfl) (by kernel_rfl) ?_
  simp only [go_sem, Nat.reduceEqDiff, reduceIte, Nat.reduceAdd, Nat.reduceMul, Nat.reduceLeDiff, Nat.reduceLT]
  obtain ⟨v2001, hv2001, h⟩ := bindE h
  refine call_i (s_l00In_ok _ _ _ _ hv2001) ?_
  simp only [go_sem, Nat.reduceEqDiff, reduceIte, Nat.reduceAdd, Nat.reduceMul, Nat.reduceLeDiff, Nat.reduceLT]
  refine cond_i (fun hb1 => ?_) (fun hb1 => ?_)
  · replace h := ifT (c := (!v2001)) hb1 h
    simp only [go_sem, Nat.reduceEqDiff, reduceIte, Nat.reduceAdd, Nat.reduceMul, Nat.reduceLeDiff, Nat.reduceLT]
    obtain rfl := Option.some.inj h
    simp only [go_sem, Nat.reduceEqDiff, reduceIte, Nat.reduceAdd, Nat.reduceMul, Nat.reduceLeDiff, Nat.reduceLT]
  · replace h := ifF (c := (!v2001)) hb1 h
    simp only [go_sem, Nat.reduceEqDiff, reduceIte, Nat.reduceAdd, Nat.reduceMul, Nat.reduceLeDiff, Nat.reduceLT]
    refine seq_go ?_
    simp only [go_sem, Nat.reduceEqDiff, reduceIte, Nat.reduceAdd, Nat.reduceMul, Nat.reduceLeDiff, Nat.reduceLT]
    obtain rfl := Option.some.inj h
    simp only [go_sem, Nat.reduceEqDiff, reduceIte, Nat.reduceAdd, Nat.reduceMul, Nat.reduceLeDiff, Nat.reduceLT]
theorem i_NewQueue_j1_ok (a0 : Int) (p0_0 : Bool) (r : Queue × Int) (h : i_NewQueue_j1 a0 p0_0 = some r) : posF Try.prog Try.f15 [1, 0, 1] (.tup [.agg (Queue.rv r.1), .int .i64 r.2]) ⟨[(0, .int .i64 a0), (2, .box 1000000500 0), (9, .bool p0_0)], [], [(1000000500, some [.int .i64 0, .int .i64 0, .int .i64 0, .nils])]⟩ := by
  unfold i_NewQueue_j1 at h
  refine posF_of rfl rfl ?_
  simp only [go_sem, Nat.reduceEqDiff, reduceIte, Nat.reduceAdd, Nat.reduceMul, Nat.reduceLeDiff, Nat.reduceLT]
  refine cond_i (fun hb2 => ?_) (fun hb2 => ?_)
  · replace h := ifT (c := p0_0) hb2 h
    simp only [go_sem, Nat.reduceEqDiff, reduceIte, Nat.reduceAdd, Nat.reduceMul, Nat.reduceLeDiff, Nat.reduceLT]
    obtain rfl := Option.some.inj h
    simp only [go_sem, Nat.reduceEqDiff, reduceIte, Nat.reduceAdd, Nat.reduceMul, Nat.reduceLeDiff, Nat.reduceLT]
  · replace h := ifF (c := p0_0) hb2 h
    simp only [go_sem, Nat.reduceEqDiff, reduceIte, Nat.reduceAdd, Nat.reduceMul, Nat.reduceLeDiff, Nat.reduceLT]
    refine seq_go ?_
    simp only [go_sem, Nat.reduceEqDiff, reduceIte, Nat.reduceAdd, Nat.reduceMul, Nat.reduceLeDiff, Nat.reduceLT]
    obtain rfl := Option.some.inj h
    simp only [go_sem, Nat.reduceEqDiff, reduceIte, Nat.reduceAdd, Nat.reduceMul, Nat.reduceLeDiff, Nat.reduceLT]
theorem i_NewQueue_ok (a0 : Int) (r : Queue × Int) (h : i_NewQueue a0 = some r) : AC Try.prog 15 [.int .i64 a0] (.tup [.agg (Queue.rv r.1), .int .i64 r.2]) := by
  unfold i_NewQueue at h
  refine ac_fn mixed Try.func15 rfl rfl rfl (by kernel_rfl) (by kernel_rfl) ?_
  simp only [go_sem, Nat.reduceEqDiff, reduceIte, Nat.reduceAdd, Nat.reduceMul, Nat.reduceLeDiff, Nat.reduceLT]
  refine cond_i (fun hb1 => ?_) (fun hb1 => ?_)
  · replace h := ifT (c := (decide (a0 < 1))) hb1 h
    simp only [go_sem, Nat.reduceEqDiff, reduceIte, Nat.reduceAdd, Nat.reduceMul, Nat.reduceLeDiff, Nat.reduceLT]
    have hj := posF_to rfl rfl (i_NewQueue_j1_ok a0 true _ h)
    refine seq_to hj (.one ⟨_, .done _, [], [(1000000500, 1000)], ?_⟩)
    clear hj
    simp only [go_sem, Nat.reduceEqDiff, reduceIte, Nat.reduceAdd, Nat.reduceMul, Nat.reduceLeDiff, Nat.reduceLT]
  · replace h := ifF (c := (decide (a0 < 1))) hb1 h
    simp only [go_sem, Nat.reduceEqDiff, reduceIte, Nat.reduceAdd, Nat.reduceMul, Nat.reduceLeDiff, Nat.reduceLT]
    have hj := posF_to rfl rfl (i_NewQueue_j1_ok a0 (decide (50 < a0)) _ h)
    refine seq_to hj (.one ⟨_, .done _, [], [(1000000500, 1000)], ?_⟩)
    clear hj
    simp only [go_sem, Nat.reduceEqDiff, reduceIte, Nat.reduceAdd, Nat.reduceMul, Nat.reduceLeDiff, Nat.reduceLT]
theorem l_eqPort_ok (a0 : Port) (a1 : Port) (r : Bool) (h : l_eqPort a0 a1 = some r) : AC Try.prog 266 [.agg (Port.avs a0), .agg (Port.avs a1)] (.bool r) := by
  unfold l_eqPort at h
  refine ac_fn mixed Try.func266 rfl rfl rfl (by kernel_rfl) (by kernel_rfl) ?_
  simp only [go_sem, Nat.reduceEqDiff, reduceIte, Nat.reduceAdd, Nat.reduceMul, Nat.reduceLeDiff, Nat.reduceLT]
  refine cond_i (fun hb1 => ?_) (fun hb1 => ?_)
  · replace h := ifT (c := (!decide (a0.agent = a1.agent))) hb1 h
    simp only [go_sem, Nat.reduceEqDiff, reduceIte, Nat.reduceAdd, Nat.reduceMul, Nat.reduceLeDiff, Nat.reduceLT]
    obtain rfl := Option.some.inj h
    simp only [go_sem, Nat.reduceEqDiff, reduceIte, Nat.reduceAdd, Nat.reduceMul, Nat.reduceLeDiff, Nat.reduceLT]
  · replace h := ifF (c := (!decide (a0.agent = a1.agent))) hb1 h
    simp only [go_sem, Nat.reduceEqDiff, reduceIte, Nat.reduceAdd, Nat.reduceMul, Nat.reduceLeDiff, Nat.reduceLT]
    refine seq_go ?_
    simp only [go_sem, Nat.reduceEqDiff, reduceIte, Nat.reduceAdd, Nat.reduceMul, Nat.reduceLeDiff, Nat.reduceLT]
    refine cond_i (fun hb2 => ?_) (fun hb2 => ?_)
    · replace h := ifT (c := (!decide (a0.slot = a1.slot))) hb2 h
      simp only [go_sem, Nat.reduceEqDiff, reduceIte, Nat.reduceAdd, Nat.reduceMul, Nat.reduceLeDiff, Nat.reduceLT]
      obtain rfl := Option.some.inj h
      simp only [go_sem, Nat.reduceEqDiff, reduceIte, Nat.reduceAdd, Nat.reduceMul, Nat.reduceLeDiff, Nat.reduceLT]
    · replace h := ifF (c := (!decide (a0.slot = a1.slot))) hb2 h
      simp only [go_sem, Nat.reduceEqDiff, reduceIte, Nat.reduceAdd, Nat.reduceMul, Nat.reduceLeDiff, Nat.reduceLT]
      refine seq_go ?_
      simp only [go_sem, Nat.reduceEqDiff, reduceIte, Nat.reduceAdd, Nat.reduceMul, Nat.reduceLeDiff, Nat.reduceLT]
      obtain rfl := Option.some.inj h
      simp only [go_sem, Nat.reduceEqDiff, reduceIte, Nat.reduceAdd, Nat.reduceMul, Nat.reduceLeDiff, Nat.reduceLT]
theorem l_eqPortS_l1_all (n : Nat) : (∀ (a0 : List Port) (a1 : List Port) (p0_0 : Int) (r : Bool), l_eqPortS_l1 n a0 a1 p0_0 = some r → posF Try.prog Try.f263 [1, 1, 0, 1, 0] (.bool r) ⟨[(0, .ro (List.map Port.ds a0)), (1, .ro (List.map Port.ds a1)), (5, .int .i64 p0_0)], [], []⟩) := by
  induction n with
  | zero => exact ((fun _ _ _ _ h => by rw [l_eqPortS_l1] at h; cases h))
  | succ n ih =>
    have ih0 := ih
    · intro a0 a1 p0_0 r h
      rw [l_eqPortS_l1] at h
      refine posF_of rfl rfl ?_
      simp only [go_sem, Nat.reduceEqDiff, reduceIte, Nat.reduceAdd, Nat.reduceMul, Nat.reduceLeDiff, Nat.reduceLT]
      refine loop_i ?_
      simp only [go_sem, Nat.reduceEqDiff, reduceIte, Nat.reduceAdd, Nat.reduceMul, Nat.reduceLeDiff, Nat.reduceLT]
      refine cond_i (fun hb2 => ?_) (fun hb2 => ?_)
      · replace h := ifT (c := (decide (p0_0 < ((List.length a0 : Nat) : Int)))) hb2 h
        simp only [go_sem, Nat.reduceEqDiff, reduceIte, Nat.reduceAdd, Nat.reduceMul, Nat.reduceLeDiff, Nat.reduceLT]
        refine seq_go ?_
        simp only [go_sem, Nat.reduceEqDiff, reduceIte, Nat.reduceAdd, Nat.reduceMul, Nat.reduceLeDiff, Nat.reduceLT]
        obtain ⟨v7002, hv7002, h⟩ := bindE h
        refine idx_m hv7002 (Port.ds_len _) ?_
        simp only [go_sem, Nat.reduceEqDiff, reduceIte, Nat.reduceAdd, Nat.reduceMul, Nat.reduceLeDiff, Nat.reduceLT]
        obtain ⟨v7006, hv7006, h⟩ := bindE h
        refine idx_m hv7006 (Port.ds_len _) ?_
        simp only [go_sem, Nat.reduceEqDiff, reduceIte, Nat.reduceAdd, Nat.reduceMul, Nat.reduceLeDiff, Nat.reduceLT]
        obtain ⟨v7008, hv7008, h⟩ := bindE h
        refine call_i (l_eqPort_ok _ _ _ hv7008) ?_
        simp only [go_sem, Nat.reduceEqDiff, reduceIte, Nat.reduceAdd, Nat.reduceMul, Nat.reduceLeDiff, Nat.reduceLT]
        refine cond_i (fun hb3 => ?_) (fun hb3 => ?_)
        · replace h := ifT (c := (!v7008)) hb3 h
          simp only [go_sem, Nat.reduceEqDiff, reduceIte, Nat.reduceAdd, Nat.reduceMul, Nat.reduceLeDiff, Nat.reduceLT]
          obtain rfl := Option.some.inj h
          simp only [go_sem, Nat.reduceEqDiff, reduceIte, Nat.reduceAdd, Nat.reduceMul, Nat.reduceLeDiff, Nat.reduceLT]
        · replace h := ifF (c := (!v7008)) hb3 h
          simp only [go_sem, Nat.reduceEqDiff, reduceIte, Nat.reduceAdd, Nat.reduceMul, Nat.reduceLeDiff, Nat.reduceLT]
          refine seq_go ?_
          simp only [go_sem, Nat.reduceEqDiff, reduceIte, Nat.reduceAdd, Nat.reduceMul, Nat.reduceLeDiff, Nat.reduceLT]
          have hj := posF_to rfl rfl (ih0 a0 a1 (IntKind.i64.wrap (p0_0 + 1)) _ h)
          refine lp_to hj (.one ⟨_, .done _, [], [], ?_⟩)
          clear hj
          simp only [go_sem, Nat.reduceEqDiff, reduceIte, Nat.reduceAdd, Nat.reduceMul, Nat.reduceLeDiff, Nat.reduceLT]
      · replace h := ifF (c := (decide (p0_0 < ((List.length a0 : Nat) : Int)))) hb2 h
        simp only [go_sem, Nat.reduceEqDiff, reduceIte, Nat.reduceAdd, Nat.reduceMul, Nat.reduceLeDiff, Nat.reduceLT]
        refine seq_go ?_
        simp only [go_sem, Nat.reduceEqDiff, reduceIte, Nat.reduceAdd, Nat.reduceMul, Nat.reduceLeDiff, Nat.reduceLT]
        obtain rfl := Option.some.inj h
        simp only [go_sem, Nat.reduceEqDiff, reduceIte, Nat.reduceAdd, Nat.reduceMul, Nat.reduceLeDiff, Nat.reduceLT]
theorem l_eqPortS_l1_ok (n : Nat) : (∀ (a0 : List Port) (a1 : List Port) (p0_0 : Int) (r : Bool), l_eqPortS_l1 n a0 a1 p0_0 = some r → posF Try.prog Try.f263 [1, 1, 0, 1, 0] (.bool r) ⟨[(0, .ro (List.map Port.ds a0)), (1, .ro (List.map Port.ds a1)), (5, .int .i64 p0_0)], [], []⟩) := (l_eqPortS_l1_all n)

theorem l_eqPortS_ok (a0 : List Port) (a1 : List Port) (r : Bool) (h : l_eqPortS a0 a1 = some r) : AC Try.prog 263 [.ro (List.map Port.ds a0), .ro (List.map Port.ds a1)] (.bool r) := by
  unfold l_eqPortS at h
  refine ac_fn mixed Try.func263 rfl rfl rfl (by kernel_rfl) (by kernel_rfl) ?_
  simp only [go_sem, Nat.reduceEqDiff, reduceIte, Nat.reduceAdd, Nat.reduceMul, Nat.reduceLeDiff, Nat.reduceLT]
  refine cond_i (fun hb1 => ?_) (fun hb1 => ?_)
  · replace h := ifT (c := (!decide (((List.length a0 : Nat) : Int) = ((List.length a1 : Nat) : Int)))) hb1 h
    simp only [go_sem, Nat.reduceEqDiff, reduceIte, Nat.reduceAdd, Nat.reduceMul, Nat.reduceLeDiff, Nat.reduceLT]
    obtain rfl := Option.some.inj h
    simp only [go_sem, Nat.reduceEqDiff, reduceIte, Nat.reduceAdd, Nat.reduceMul, Nat.reduceLeDiff, Nat.reduceLT]
  · replace h := ifF (c := (!decide (((List.length a0 : Nat) : Int) = ((List.length a1 : Nat) : Int)))) hb1 h
    simp only [go_sem, Nat.reduceEqDiff, reduceIte, Nat.reduceAdd, Nat.reduceMul, Nat.reduceLeDiff, Nat.reduceLT]
    refine seq_go ?_
    simp only [go_sem, Nat.reduceEqDiff, reduceIte, Nat.reduceAdd, Nat.reduceMul, Nat.reduceLeDiff, Nat.reduceLT]
    have hj := posF_to rfl rfl (l_eqPortS_l1_ok fuel a0 a1 0 _ h)
    refine loop_to hj (.one ⟨_, .done _, [], [], ?_⟩)
    clear hj
    simp only [go_sem, Nat.reduceEqDiff, reduceIte, Nat.reduceAdd, Nat.reduceMul, Nat.reduceLeDiff, Nat.reduceLT]
theorem l_eqAgent_ok (a0 : Agent) (a1 : Agent) (r : Bool) (h : l_eqAgent a0 a1 = some r) : AC Try.prog 257 [.agg (Agent.avs a0), .agg (Agent.avs a1)] (.bool r) := by
  unfold l_eqAgent at h
  refine ac_fn mixed Try.func257 rfl rfl rfl (by kernel_rfl) (by kernel_rfl) ?_
  simp only [go_sem, Nat.reduceEqDiff, reduceIte, Nat.reduceAdd, Nat.reduceMul, Nat.reduceLeDiff, Nat.reduceLT]
  refine cond_i (fun hb1 => ?_) (fun hb1 => ?_)
  · replace h := ifT (c := (!decide (a0.kind = a1.kind))) hb1 h
    simp only [go_sem, Nat.reduceEqDiff, reduceIte, Nat.reduceAdd, Nat.reduceMul, Nat.reduceLeDiff, Nat.reduceLT]
    obtain rfl := Option.some.inj h
    simp only [go_sem, Nat.reduceEqDiff, reduceIte, Nat.reduceAdd, Nat.reduceMul, Nat.reduceLeDiff, Nat.reduceLT]
  · replace h := ifF (c := (!decide (a0.kind = a1.kind))) hb1 h
    simp only [go_sem, Nat.reduceEqDiff, reduceIte, Nat.reduceAdd, Nat.reduceMul, Nat.reduceLeDiff, Nat.reduceLT]
    refine seq_go ?_
    simp only [go_sem, Nat.reduceEqDiff, reduceIte, Nat.reduceAdd, Nat.reduceMul, Nat.reduceLeDiff, Nat.reduceLT]
    refine cond_i (fun hb2 => ?_) (fun hb2 => ?_)
    · replace h := ifT (c := (!decide (a0.level = a1.level))) hb2 h
      simp only [go_sem, Nat.reduceEqDiff, reduceIte, Nat.reduceAdd, Nat.reduceMul, Nat.reduceLeDiff, Nat.reduceLT]
      obtain rfl := Option.some.inj h
      simp only [go_sem, Nat.reduceEqDiff, reduceIte, Nat.reduceAdd, Nat.reduceMul, Nat.reduceLeDiff, Nat.reduceLT]
    · replace h := ifF (c := (!decide (a0.level = a1.level))) hb2 h
      simp only [go_sem, Nat.reduceEqDiff, reduceIte, Nat.reduceAdd, Nat.reduceMul, Nat.reduceLeDiff, Nat.reduceLT]
      refine seq_go ?_
      simp only [go_sem, Nat.reduceEqDiff, reduceIte, Nat.reduceAdd, Nat.reduceMul, Nat.reduceLeDiff, Nat.reduceLT]
      refine cond_i (fun hb3 => ?_) (fun hb3 => ?_)
      · replace h := ifT (c := (!decide (a0.value = a1.value))) hb3 h
        simp only [go_sem, Nat.reduceEqDiff, reduceIte, Nat.reduceAdd, Nat.reduceMul, Nat.reduceLeDiff, Nat.reduceLT]
        obtain rfl := Option.some.inj h
        simp only [go_sem, Nat.reduceEqDiff, reduceIte, Nat.reduceAdd, Nat.reduceMul, Nat.reduceLeDiff, Nat.reduceLT]
      · replace h := ifF (c := (!decide (a0.value = a1.value))) hb3 h
        simp only [go_sem, Nat.reduceEqDiff, reduceIte, Nat.reduceAdd, Nat.reduceMul, Nat.reduceLeDiff, Nat.reduceLT]
        refine seq_go ?_
        simp only [go_sem, Nat.reduceEqDiff, reduceIte, Nat.reduceAdd, Nat.reduceMul, Nat.reduceLeDiff, Nat.reduceLT]
        obtain ⟨v8004, hv8004, h⟩ := bindE h
        refine call_i (l_eqInt64S_ok _ _ _ hv8004) ?_
        simp only [go_sem, Nat.reduceEqDiff, reduceIte, Nat.reduceAdd, Nat.reduceMul, Nat.reduceLeDiff, Nat.reduceLT]
        refine cond_i (fun hb4 => ?_) (fun hb4 => ?_)
        · replace h := ifT (c := (!v8004)) hb4 h
          simp only [go_sem, Nat.reduceEqDiff, reduceIte, Nat.reduceAdd, Nat.reduceMul, Nat.reduceLeDiff, Nat.reduceLT]
          obtain rfl := Option.some.inj h
          simp only [go_sem, Nat.reduceEqDiff, reduceIte, Nat.reduceAdd, Nat.reduceMul, Nat.reduceLeDiff, Nat.reduceLT]
        · replace h := ifF (c := (!v8004)) hb4 h
          simp only [go_sem, Nat.reduceEqDiff, reduceIte, Nat.reduceAdd, Nat.reduceMul, Nat.reduceLeDiff, Nat.reduceLT]
          refine seq_go ?_
          simp only [go_sem, Nat.reduceEqDiff, reduceIte, Nat.reduceAdd, Nat.reduceMul, Nat.reduceLeDiff, Nat.reduceLT]
          obtain ⟨v10004, hv10004, h⟩ := bindE h
          refine call_i (l_eqPortS_ok _ _ _ hv10004) ?_
          simp only [go_sem, Nat.reduceEqDiff, reduceIte, Nat.reduceAdd, Nat.reduceMul, Nat.reduceLeDiff, Nat.reduceLT]
          refine cond_i (fun hb5 => ?_) (fun hb5 => ?_)
          · replace h := ifT (c := (!v10004)) hb5 h
            simp only [go_sem, Nat.reduceEqDiff, reduceIte, Nat.reduceAdd, Nat.reduceMul, Nat.reduceLeDiff, Nat.reduceLT]
            obtain rfl := Option.some.inj h
            simp only [go_sem, Nat.reduceEqDiff, reduceIte, Nat.reduceAdd, Nat.reduceMul, Nat.reduceLeDiff, Nat.reduceLT]
          · replace h := ifF (c := (!v10004)) hb5 h
            simp only [go_sem, Nat.reduceEqDiff, reduceIte, Nat.reduceAdd, Nat.reduceMul, Nat.reduceLeDiff, Nat.reduceLT]
            refine seq_go ?_
            simp only [go_sem, Nat.reduceEqDiff, reduceIte, Nat.reduceAdd, Nat.reduceMul, Nat.reduceLeDiff, Nat.reduceLT]
            obtain rfl := Option.some.inj h
            simp only [go_sem, Nat.reduceEqDiff, reduceIte, Nat.reduceAdd, Nat.reduceMul, Nat.reduceLeDiff, Nat.reduceLT]
theorem l_eqAgentS_l1_all (n : Nat) : (∀ (a0 : List Agent) (a1 : List Agent) (p0_0 : Int) (r : Bool), l_eqAgentS_l1 n a0 a1 p0_0 = some r → posF Try.prog Try.f245 [1, 1, 0, 1, 0] (.bool r) ⟨[(0, .ro (List.map Agent.ds a0)), (1, .ro (List.map Agent.ds a1)), (5, .int .i64 p0_0)], [], []⟩) := by
  induction n with
  | zero => exact ((fun _ _ _ _ h => by rw [l_eqAgentS_l1] at h; cases h))
  | succ n ih =>
    have ih0 := ih
    · intro a0 a1 p0_0 r h
      rw [l_eqAgentS_l1] at h
      refine posF_of rfl rfl ?_
      simp only [go_sem, Nat.reduceEqDiff, reduceIte, Nat.reduceAdd, Nat.reduceMul, Nat.reduceLeDiff, Nat.reduceLT]
      refine loop_i ?_
      simp only [go_sem, Nat.reduceEqDiff, reduceIte, Nat.reduceAdd, Nat.reduceMul, Nat.reduceLeDiff, Nat.reduceLT]
      refine cond_i (fun hb2 => ?_) (fun hb2 => ?_)
      · replace h := ifT (c := (decide (p0_0 < ((List.length a0 : Nat) : Int)))) hb2 h
        simp only [go_sem, Nat.reduceEqDiff, reduceIte, Nat.reduceAdd, Nat.reduceMul, Nat.reduceLeDiff, Nat.reduceLT]
        refine seq_go ?_
        simp only [go_sem, Nat.reduceEqDiff, reduceIte, Nat.reduceAdd, Nat.reduceMul, Nat.reduceLeDiff, Nat.reduceLT]
        obtain ⟨v7002, hv7002, h⟩ := bindE h
        refine idx_m hv7002 (Agent.ds_len _) ?_
        simp only [go_sem, Nat.reduceEqDiff, reduceIte, Nat.reduceAdd, Nat.reduceMul, Nat.reduceLeDiff, Nat.reduceLT]
        obtain ⟨v7006, hv7006, h⟩ := bindE h
        refine idx_m hv7006 (Agent.ds_len _) ?_
        simp only [go_sem, Nat.reduceEqDiff, reduceIte, Nat.reduceAdd, Nat.reduceMul, Nat.reduceLeDiff, Nat.reduceLT]
        obtain ⟨v7008, hv7008, h⟩ := bindE h
        refine call_i (l_eqAgent_ok _ _ _ hv7008) ?_
        simp only [go_sem, Nat.reduceEqDiff, reduceIte, Nat.reduceAdd, Nat.reduceMul, Nat.reduceLeDiff, Nat.reduceLT]
        refine cond_i (fun hb3 => ?_) (fun hb3 => ?_)
        · replace h := ifT (c := (!v7008)) hb3 h
          simp only [go_sem, Nat.reduceEqDiff, reduceIte, Nat.reduceAdd, Nat.reduceMul, Nat.reduceLeDiff, Nat.reduceLT]
          obtain rfl := Option.some.inj h
          simp only [go_sem, Nat.reduceEqDiff, reduceIte, Nat.reduceAdd, Nat.reduceMul, Nat.reduceLeDiff, Nat.reduceLT]
        · replace h := ifF (c := (!v7008)) hb3 h
          simp only [go_sem, Nat.reduceEqDiff, reduceIte, Nat.reduceAdd, Nat.reduceMul, Nat.reduceLeDiff, Nat.reduceLT]
          refine seq_go ?_
          simp only [go_sem, Nat.reduceEqDiff, reduceIte, Nat.reduceAdd, Nat.reduceMul, Nat.reduceLeDiff, Nat.reduceLT]
          have hj := posF_to rfl rfl (ih0 a0 a1 (IntKind.i64.wrap (p0_0 + 1)) _ h)
          refine lp_to hj (.one ⟨_, .done _, [], [], ?_⟩)
          clear hj
          simp only [go_sem, Nat.reduceEqDiff, reduceIte, Nat.reduceAdd, Nat.reduceMul, Nat.reduceLeDiff, Nat.reduceLT]
      · replace h := ifF (c := (decide (p0_0 < ((List.length a0 : Nat) : Int)))) hb2 h
        simp only [go_sem, Nat.reduceEqDiff, reduceIte, Nat.reduceAdd, Nat.reduceMul, Nat.reduceLeDiff, Nat.reduceLT]
        refine seq_go ?_
        simp only [go_sem, Nat.reduceEqDiff, reduceIte, Nat.reduceAdd, Nat.reduceMul, Nat.reduceLeDiff, Nat.reduceLT]
        obtain rfl := Option.some.inj h
        simp only [go_sem, Nat.reduceEqDiff, reduceIte, Nat.reduceAdd, Nat.reduceMul, Nat.reduceLeDiff, Nat.reduceLT]
theorem l_eqAgentS_l1_ok (n : Nat) : (∀ (a0 : List Agent) (a1 : List Agent) (p0_0 : Int) (r : Bool), l_eqAgentS_l1 n a0 a1 p0_0 = some r → posF Try.prog Try.f245 [1, 1, 0, 1, 0] (.bool r) ⟨[(0, .ro (List.map Agent.ds a0)), (1, .ro (List.map Agent.ds a1)), (5, .int .i64 p0_0)], [], []⟩) := (l_eqAgentS_l1_all n)

theorem l_eqAgentS_ok (a0 : List Agent) (a1 : List Agent) (r : Bool) (h : l_eqAgentS a0 a1 = some r) : AC Try.prog 245 [.ro (List.map Agent.ds a0), .ro (List.map Agent.ds a1)] (.bool r) := by
  unfold l_eqAgentS at h
  refine ac_fn mixed Try.func245 rfl rfl rfl (by kernel_rfl) (by kernel_rfl) ?_
  simp only [go_sem, Nat.reduceEqDiff, reduceIte, Nat.reduceAdd, Nat.reduceMul, Nat.reduceLeDiff, Nat.reduceLT]
  refine cond_i (fun hb1 => ?_) (fun hb1 => ?_)
  · replace h := ifT (c := (!decide (((List.length a0 : Nat) : Int) = ((List.length a1 : Nat) : Int)))) hb1 h
    simp only [go_sem, Nat.reduceEqDiff, reduceIte, Nat.reduceAdd, Nat.reduceMul, Nat.reduceLeDiff, Nat.reduceLT]
    obtain rfl := Option.some.inj h
    simp only [go_sem, Nat.reduceEqDiff, reduceIte, Nat.reduceAdd, Nat.reduceMul, Nat.reduceLeDiff, Nat.reduceLT]
  · replace h := ifF (c := (!decide (((List.length a0 : Nat) : Int) = ((List.length a1 : Nat) : Int)))) hb1 h
    simp only [go_sem, Nat.reduceEqDiff, reduceIte, Nat.reduceAdd, Nat.reduceMul, Nat.reduceLeDiff, Nat.reduceLT]
    refine seq_go ?_
    simp only [go_sem, Nat.reduceEqDiff, reduceIte, Nat.reduceAdd, Nat.reduceMul, Nat.reduceLeDiff, Nat.reduceLT]
    have hj := posF_to rfl rfl (l_eqAgentS_l1_ok fuel a0 a1 0 _ h)
    refine loop_to hj (.one ⟨_, .done _, [], [], ?_⟩)
    clear hj
    simp only [go_sem, Nat.reduceEqDiff, reduceIte, Nat.reduceAdd, Nat.reduceMul, Nat.reduceLeDiff, Nat.reduceLT]
theorem l_eqNet_ok (a0 : Net) (a1 : Net) (r : Bool) (h : l_eqNet a0 a1 = some r) : AC Try.prog 211 [.agg (Net.avs a0), .agg (Net.avs a1)] (.bool r) := by
  unfold l_eqNet at h
  refine ac_fn mixed Try.func211 rfl rfl rfl (by kernel_rfl) (by kernel_rfl) ?_
  simp only [go_sem, Nat.reduceEqDiff, reduceIte, Nat.reduceAdd, Nat.reduceMul, Nat.reduceLeDiff, Nat.reduceLT]
  obtain ⟨v2004, hv2004, h⟩ := bindE h
  refine call_i (l_eqAgentS_ok _ _ _ hv2004) ?_
  simp only [go_sem, Nat.reduceEqDiff, reduceIte, Nat.reduceAdd, Nat.reduceMul, Nat.reduceLeDiff, Nat.reduceLT]
  refine cond_i (fun hb1 => ?_) (fun hb1 => ?_)
  · replace h := ifT (c := (!v2004)) hb1 h
    simp only [go_sem, Nat.reduceEqDiff, reduceIte, Nat.reduceAdd, Nat.reduceMul, Nat.reduceLeDiff, Nat.reduceLT]
    obtain rfl := Option.some.inj h
    simp only [go_sem, Nat.reduceEqDiff, reduceIte, Nat.reduceAdd, Nat.reduceMul, Nat.reduceLeDiff, Nat.reduceLT]
  · replace h := ifF (c := (!v2004)) hb1 h
    simp only [go_sem, Nat.reduceEqDiff, reduceIte, Nat.reduceAdd, Nat.reduceMul, Nat.reduceLeDiff, Nat.reduceLT]
    refine seq_go ?_
    simp only [go_sem, Nat.reduceEqDiff, reduceIte, Nat.reduceAdd, Nat.reduceMul, Nat.reduceLeDiff, Nat.reduceLT]
    obtain rfl := Option.some.inj h
    simp only [go_sem, Nat.reduceEqDiff, reduceIte, Nat.reduceAdd, Nat.reduceMul, Nat.reduceLeDiff, Nat.reduceLT]
theorem l_eqNetS_l1_all (n : Nat) : (∀ (a0 : List Net) (a1 : List Net) (p0_0 : Int) (r : Bool), l_eqNetS_l1 n a0 a1 p0_0 = some r → posF Try.prog Try.f210 [1, 1, 0, 1, 0] (.bool r) ⟨[(0, .ro (List.map Net.ds a0)), (1, .ro (List.map Net.ds a1)), (5, .int .i64 p0_0)], [], []⟩) := by
  induction n with
  | zero => exact ((fun _ _ _ _ h => by rw [l_eqNetS_l1] at h; cases h))
  | succ n ih =>
    have ih0 := ih
    · intro a0 a1 p0_0 r h
      rw [l_eqNetS_l1] at h
      refine posF_of rfl rfl ?_
      simp only [go_sem, Nat.reduceEqDiff, reduceIte, Nat.reduceAdd, Nat.reduceMul, Nat.reduceLeDiff, Nat.reduceLT]
      refine loop_i ?_
      simp only [go_sem, Nat.reduceEqDiff, reduceIte, Nat.reduceAdd, Nat.reduceMul, Nat.reduceLeDiff, Nat.reduceLT]
      refine cond_i (fun hb2 => ?_) (fun hb2 => ?_)
      · replace h := ifT (c := (decide (p0_0 < ((List.length a0 : Nat) : Int)))) hb2 h
        simp only [go_sem, Nat.reduceEqDiff, reduceIte, Nat.reduceAdd, Nat.reduceMul, Nat.reduceLeDiff, Nat.reduceLT]
        refine seq_go ?_
        simp only [go_sem, Nat.reduceEqDiff, reduceIte, Nat.reduceAdd, Nat.reduceMul, Nat.reduceLeDiff, Nat.reduceLT]
        obtain ⟨v7002, hv7002, h⟩ := bindE h
        refine idx_m hv7002 (Net.ds_len _) ?_
        simp only [go_sem, Nat.reduceEqDiff, reduceIte, Nat.reduceAdd, Nat.reduceMul, Nat.reduceLeDiff, Nat.reduceLT]
        obtain ⟨v7006, hv7006, h⟩ := bindE h
        refine idx_m hv7006 (Net.ds_len _) ?_
        simp only [go_sem, Nat.reduceEqDiff, reduceIte, Nat.reduceAdd, Nat.reduceMul, Nat.reduceLeDiff, Nat.reduceLT]
        obtain ⟨v7008, hv7008, h⟩ := bindE h
        refine call_i (l_eqNet_ok _ _ _ hv7008) ?_
        simp only [go_sem, Nat.reduceEqDiff, reduceIte, Nat.reduceAdd, Nat.reduceMul, Nat.reduceLeDiff, Nat.reduceLT]
        refine cond_i (fun hb3 => ?_) (fun hb3 => ?_)
        · replace h := ifT (c := (!v7008)) hb3 h
          simp only [go_sem, Nat.reduceEqDiff, reduceIte, Nat.reduceAdd, Nat.reduceMul, Nat.reduceLeDiff, Nat.reduceLT]
          obtain rfl := Option.some.inj h
          simp only [go_sem, Nat.reduceEqDiff, reduceIte, Nat.reduceAdd, Nat.reduceMul, Nat.reduceLeDiff, Nat.reduceLT]
        · replace h := ifF (c := (!v7008)) hb3 h
          simp only [go_sem, Nat.reduceEqDiff, reduceIte, Nat.reduceAdd, Nat.reduceMul, Nat.reduceLeDiff, Nat.reduceLT]
          refine seq_go ?_
          simp only [go_sem, Nat.reduceEqDiff, reduceIte, Nat.reduceAdd, Nat.reduceMul, Nat.reduceLeDiff, Nat.reduceLT]
          have hj := posF_to rfl rfl (ih0 a0 a1 (IntKind.i64.wrap (p0_0 + 1)) _ h)
          refine lp_to hj (.one ⟨_, .done _, [], [], ?_⟩)
          clear hj
          simp only [go_sem, Nat.reduceEqDiff, reduceIte, Nat.reduceAdd, Nat.reduceMul, Nat.reduceLeDiff, Nat.reduceLT]
      · replace h := ifF (c := (decide (p0_0 < ((List.length a0 : Nat) : Int)))) hb2 h
        simp only [go_sem, Nat.reduceEqDiff, reduceIte, Nat.reduceAdd, Nat.reduceMul, Nat.reduceLeDiff, Nat.reduceLT]
        refine seq_go ?_
        simp only [go_sem, Nat.reduceEqDiff, reduceIte, Nat.reduceAdd, Nat.reduceMul, Nat.reduceLeDiff, Nat.reduceLT]
        obtain rfl := Option.some.inj h
        simp only [go_sem, Nat.reduceEqDiff, reduceIte, Nat.reduceAdd, Nat.reduceMul, Nat.reduceLeDiff, Nat.reduceLT]
theorem l_eqNetS_l1_ok (n : Nat) : (∀ (a0 : List Net) (a1 : List Net) (p0_0 : Int) (r : Bool), l_eqNetS_l1 n a0 a1 p0_0 = some r → posF Try.prog Try.f210 [1, 1, 0, 1, 0] (.bool r) ⟨[(0, .ro (List.map Net.ds a0)), (1, .ro (List.map Net.ds a1)), (5, .int .i64 p0_0)], [], []⟩) := (l_eqNetS_l1_all n)

theorem l_eqNetS_ok (a0 : List Net) (a1 : List Net) (r : Bool) (h : l_eqNetS a0 a1 = some r) : AC Try.prog 210 [.ro (List.map Net.ds a0), .ro (List.map Net.ds a1)] (.bool r) := by
  unfold l_eqNetS at h
  refine ac_fn mixed Try.func210 rfl rfl rfl (by kernel_rfl) (by kernel_rfl) ?_
  simp only [go_sem, Nat.reduceEqDiff, reduceIte, Nat.reduceAdd, Nat.reduceMul, Nat.reduceLeDiff, Nat.reduceLT]
  refine cond_i (fun hb1 => ?_) (fun hb1 => ?_)
  · replace h := ifT (c := (!decide (((List.length a0 : Nat) : Int) = ((List.length a1 : Nat) : Int)))) hb1 h
    simp only [go_sem, Nat.reduceEqDiff, reduceIte, Nat.reduceAdd, Nat.reduceMul, Nat.reduceLeDiff, Nat.reduceLT]
    obtain rfl := Option.some.inj h
    simp only [go_sem, Nat.reduceEqDiff, reduceIte, Nat.reduceAdd, Nat.reduceMul, Nat.reduceLeDiff, Nat.reduceLT]
  · replace h := ifF (c := (!decide (((List.length a0 : Nat) : Int) = ((List.length a1 : Nat) : Int)))) hb1 h
    simp only [go_sem, Nat.reduceEqDiff, reduceIte, Nat.reduceAdd, Nat.reduceMul, Nat.reduceLeDiff, Nat.reduceLT]
    refine seq_go ?_
    simp only [go_sem, Nat.reduceEqDiff, reduceIte, Nat.reduceAdd, Nat.reduceMul, Nat.reduceLeDiff, Nat.reduceLT]
    have hj := posF_to rfl rfl (l_eqNetS_l1_ok fuel a0 a1 0 _ h)
    refine loop_to hj (.one ⟨_, .done _, [], [], ?_⟩)
    clear hj
    simp only [go_sem, Nat.reduceEqDiff, reduceIte, Nat.reduceAdd, Nat.reduceMul, Nat.reduceLeDiff, Nat.reduceLT]
theorem l_eqJob_ok (a0 : Job) (a1 : Job) (r : Bool) (h : l_eqJob a0 a1 = some r) : AC Try.prog 133 [.agg (Job.avs a0), .agg (Job.avs a1)] (.bool r) := by
  unfold l_eqJob at h
  refine ac_fn mixed Try.func133 rfl rfl rfl (by kernel_rfl) (by kernel_rfl) ?_
  simp only [go_sem, Nat.reduceEqDiff, reduceIte, Nat.reduceAdd, Nat.reduceMul, Nat.reduceLeDiff, Nat.reduceLT]
  refine cond_i (fun hb1 => ?_) (fun hb1 => ?_)
  · replace h := ifT (c := (!decide (a0.id = a1.id))) hb1 h
    simp only [go_sem, Nat.reduceEqDiff, reduceIte, Nat.reduceAdd, Nat.reduceMul, Nat.reduceLeDiff, Nat.reduceLT]
    obtain rfl := Option.some.inj h
    simp only [go_sem, Nat.reduceEqDiff, reduceIte, Nat.reduceAdd, Nat.reduceMul, Nat.reduceLeDiff, Nat.reduceLT]
  · replace h := ifF (c := (!decide (a0.id = a1.id))) hb1 h
    simp only [go_sem, Nat.reduceEqDiff, reduceIte, Nat.reduceAdd, Nat.reduceMul, Nat.reduceLeDiff, Nat.reduceLT]
    refine seq_go ?_
    simp only [go_sem, Nat.reduceEqDiff, reduceIte, Nat.reduceAdd, Nat.reduceMul, Nat.reduceLeDiff, Nat.reduceLT]
    refine cond_i (fun hb2 => ?_) (fun hb2 => ?_)
    · replace h := ifT (c := (!decide (a0.weight = a1.weight))) hb2 h
      simp only [go_sem, Nat.reduceEqDiff, reduceIte, Nat.reduceAdd, Nat.reduceMul, Nat.reduceLeDiff, Nat.reduceLT]
      obtain rfl := Option.some.inj h
      simp only [go_sem, Nat.reduceEqDiff, reduceIte, Nat.reduceAdd, Nat.reduceMul, Nat.reduceLeDiff, Nat.reduceLT]
    · replace h := ifF (c := (!decide (a0.weight = a1.weight))) hb2 h
      simp only [go_sem, Nat.reduceEqDiff, reduceIte, Nat.reduceAdd, Nat.reduceMul, Nat.reduceLeDiff, Nat.reduceLT]
      refine seq_go ?_
      simp only [go_sem, Nat.reduceEqDiff, reduceIte, Nat.reduceAdd, Nat.reduceMul, Nat.reduceLeDiff, Nat.reduceLT]
      refine cond_i (fun hb3 => ?_) (fun hb3 => ?_)
      · replace h := ifT (c := (!decide (a0.state = a1.state))) hb3 h
        simp only [go_sem, Nat.reduceEqDiff, reduceIte, Nat.reduceAdd, Nat.reduceMul, Nat.reduceLeDiff, Nat.reduceLT]
        obtain rfl := Option.some.inj h
        simp only [go_sem, Nat.reduceEqDiff, reduceIte, Nat.reduceAdd, Nat.reduceMul, Nat.reduceLeDiff, Nat.reduceLT]
      · replace h := ifF (c := (!decide (a0.state = a1.state))) hb3 h
        simp only [go_sem, Nat.reduceEqDiff, reduceIte, Nat.reduceAdd, Nat.reduceMul, Nat.reduceLeDiff, Nat.reduceLT]
        refine seq_go ?_
        simp only [go_sem, Nat.reduceEqDiff, reduceIte, Nat.reduceAdd, Nat.reduceMul, Nat.reduceLeDiff, Nat.reduceLT]
        refine cond_i (fun hb4 => ?_) (fun hb4 => ?_)
        · replace h := ifT (c := (!decide (a0.code = a1.code))) hb4 h
          simp only [go_sem, Nat.reduceEqDiff, reduceIte, Nat.reduceAdd, Nat.reduceMul, Nat.reduceLeDiff, Nat.reduceLT]
          obtain rfl := Option.some.inj h
          simp only [go_sem, Nat.reduceEqDiff, reduceIte, Nat.reduceAdd, Nat.reduceMul, Nat.reduceLeDiff, Nat.reduceLT]
        · replace h := ifF (c := (!decide (a0.code = a1.code))) hb4 h
          simp only [go_sem, Nat.reduceEqDiff, reduceIte, Nat.reduceAdd, Nat.reduceMul, Nat.reduceLeDiff, Nat.reduceLT]
          refine seq_go ?_
          simp only [go_sem, Nat.reduceEqDiff, reduceIte, Nat.reduceAdd, Nat.reduceMul, Nat.reduceLeDiff, Nat.reduceLT]
          refine cond_i (fun hb5 => ?_) (fun hb5 => ?_)
          · replace h := ifT (c := (!decide (a0.left = a1.left))) hb5 h
            simp only [go_sem, Nat.reduceEqDiff, reduceIte, Nat.reduceAdd, Nat.reduceMul, Nat.reduceLeDiff, Nat.reduceLT]
            obtain rfl := Option.some.inj h
            simp only [go_sem, Nat.reduceEqDiff, reduceIte, Nat.reduceAdd, Nat.reduceMul, Nat.reduceLeDiff, Nat.reduceLT]
          · replace h := ifF (c := (!decide (a0.left = a1.left))) hb5 h
            simp only [go_sem, Nat.reduceEqDiff, reduceIte, Nat.reduceAdd, Nat.reduceMul, Nat.reduceLeDiff, Nat.reduceLT]
            refine seq_go ?_
            simp only [go_sem, Nat.reduceEqDiff, reduceIte, Nat.reduceAdd, Nat.reduceMul, Nat.reduceLeDiff, Nat.reduceLT]
            refine cond_i (fun hb6 => ?_) (fun hb6 => ?_)
            · replace h := ifT (c := (!decide (a0.slices = a1.slices))) hb6 h
              simp only [go_sem, Nat.reduceEqDiff, reduceIte, Nat.reduceAdd, Nat.reduceMul, Nat.reduceLeDiff, Nat.reduceLT]
              obtain rfl := Option.some.inj h
              simp only [go_sem, Nat.reduceEqDiff, reduceIte, Nat.reduceAdd, Nat.reduceMul, Nat.reduceLeDiff, Nat.reduceLT]
            · replace h := ifF (c := (!decide (a0.slices = a1.slices))) hb6 h
              simp only [go_sem, Nat.reduceEqDiff, reduceIte, Nat.reduceAdd, Nat.reduceMul, Nat.reduceLeDiff, Nat.reduceLT]
              refine seq_go ?_
              simp only [go_sem, Nat.reduceEqDiff, reduceIte, Nat.reduceAdd, Nat.reduceMul, Nat.reduceLeDiff, Nat.reduceLT]
              obtain ⟨v14004, hv14004, h⟩ := bindE h
              refine call_i (l_eqInt64S_ok _ _ _ hv14004) ?_
              simp only [go_sem, Nat.reduceEqDiff, reduceIte, Nat.reduceAdd, Nat.reduceMul, Nat.reduceLeDiff, Nat.reduceLT]
              refine cond_i (fun hb7 => ?_) (fun hb7 => ?_)
              · replace h := ifT (c := (!v14004)) hb7 h
                simp only [go_sem, Nat.reduceEqDiff, reduceIte, Nat.reduceAdd, Nat.reduceMul, Nat.reduceLeDiff, Nat.reduceLT]
                obtain rfl := Option.some.inj h
                simp only [go_sem, Nat.reduceEqDiff, reduceIte, Nat.reduceAdd, Nat.reduceMul, Nat.reduceLeDiff, Nat.reduceLT]
              · replace h := ifF (c := (!v14004)) hb7 h
                simp only [go_sem, Nat.reduceEqDiff, reduceIte, Nat.reduceAdd, Nat.reduceMul, Nat.reduceLeDiff, Nat.reduceLT]
                refine seq_go ?_
                simp only [go_sem, Nat.reduceEqDiff, reduceIte, Nat.reduceAdd, Nat.reduceMul, Nat.reduceLeDiff, Nat.reduceLT]
                obtain ⟨v16004, hv16004, h⟩ := bindE h
                refine call_i (l_eqInt64S_ok _ _ _ hv16004) ?_
                simp only [go_sem, Nat.reduceEqDiff, reduceIte, Nat.reduceAdd, Nat.reduceMul, Nat.reduceLeDiff, Nat.reduceLT]
                refine cond_i (fun hb8 => ?_) (fun hb8 => ?_)
                · replace h := ifT (c := (!v16004)) hb8 h
                  simp only [go_sem, Nat.reduceEqDiff, reduceIte, Nat.reduceAdd, Nat.reduceMul, Nat.reduceLeDiff, Nat.reduceLT]
                  obtain rfl := Option.some.inj h
                  simp only [go_sem, Nat.reduceEqDiff, reduceIte, Nat.reduceAdd, Nat.reduceMul, Nat.reduceLeDiff, Nat.reduceLT]
                · replace h := ifF (c := (!v16004)) hb8 h
                  simp only [go_sem, Nat.reduceEqDiff, reduceIte, Nat.reduceAdd, Nat.reduceMul, Nat.reduceLeDiff, Nat.reduceLT]
                  refine seq_go ?_
                  simp only [go_sem, Nat.reduceEqDiff, reduceIte, Nat.reduceAdd, Nat.reduceMul, Nat.reduceLeDiff, Nat.reduceLT]
                  obtain ⟨v18004, hv18004, h⟩ := bindE h
                  refine call_i (l_eqNetS_ok _ _ _ hv18004) ?_
                  simp only [go_sem, Nat.reduceEqDiff, reduceIte, Nat.reduceAdd, Nat.reduceMul, Nat.reduceLeDiff, Nat.reduceLT]
                  refine cond_i (fun hb9 => ?_) (fun hb9 => ?_)
                  · replace h := ifT (c := (!v18004)) hb9 h
                    simp only [go_sem, Nat.reduceEqDiff, reduceIte, Nat.reduceAdd, Nat.reduceMul, Nat.reduceLeDiff, Nat.reduceLT]
                    obtain rfl := Option.some.inj h
                    simp only [go_sem, Nat.reduceEqDiff, reduceIte, Nat.reduceAdd, Nat.reduceMul, Nat.reduceLeDiff, Nat.reduceLT]
                  · replace h := ifF (c := (!v18004)) hb9 h
                    simp only [go_sem, Nat.reduceEqDiff, reduceIte, Nat.reduceAdd, Nat.reduceMul, Nat.reduceLeDiff, Nat.reduceLT]
                    refine seq_go ?_
                    simp only [go_sem, Nat.reduceEqDiff, reduceIte, Nat.reduceAdd, Nat.reduceMul, Nat.reduceLeDiff, Nat.reduceLT]
                    obtain ⟨v20004, hv20004, h⟩ := bindE h
                    refine call_i (l_eqNet_ok _ _ _ hv20004) ?_
                    simp only [go_sem, Nat.reduceEqDiff, reduceIte, Nat.reduceAdd, Nat.reduceMul, Nat.reduceLeDiff, Nat.reduceLT]
                    refine cond_i (fun hb10 => ?_) (fun hb10 => ?_)
                    · replace h := ifT (c := (!v20004)) hb10 h
                      simp only [go_sem, Nat.reduceEqDiff, reduceIte, Nat.reduceAdd, Nat.reduceMul, Nat.reduceLeDiff, Nat.reduceLT]
                      obtain rfl := Option.some.inj h
                      simp only [go_sem, Nat.reduceEqDiff, reduceIte, Nat.reduceAdd, Nat.reduceMul, Nat.reduceLeDiff, Nat.reduceLT]
                    · replace h := ifF (c := (!v20004)) hb10 h
                      simp only [go_sem, Nat.reduceEqDiff, reduceIte, Nat.reduceAdd, Nat.reduceMul, Nat.reduceLeDiff, Nat.reduceLT]
                      refine seq_go ?_
                      simp only [go_sem, Nat.reduceEqDiff, reduceIte, Nat.reduceAdd, Nat.reduceMul, Nat.reduceLeDiff, Nat.reduceLT]
                      obtain rfl := Option.some.inj h
                      simp only [go_sem, Nat.reduceEqDiff, reduceIte, Nat.reduceAdd, Nat.reduceMul, Nat.reduceLeDiff, Nat.reduceLT]
theorem l_eqJobS_l1_all (n : Nat) : (∀ (a0 : List Job) (a1 : List Job) (p0_0 : Int) (r : Bool), l_eqJobS_l1 n a0 a1 p0_0 = some r → posF Try.prog Try.f67 [1, 1, 0, 1, 0] (.bool r) ⟨[(0, .ro (List.map Job.ds a0)), (1, .ro (List.map Job.ds a1)), (5, .int .i64 p0_0)], [], []⟩) := by
  induction n with
  | zero => exact ((fun _ _ _ _ h => by rw [l_eqJobS_l1] at h; cases h))
  | succ n ih =>
    have ih0 := ih
    · intro a0 a1 p0_0 r h
      rw [l_eqJobS_l1] at h
      refine posF_of rfl rfl ?_
      simp only [go_sem, Nat.reduceEqDiff, reduceIte, Nat.reduceAdd, Nat.reduceMul, Nat.reduceLeDiff, Nat.reduceLT]
      refine loop_i ?_
      simp only [go_sem, Nat.reduceEqDiff, reduceIte, Nat.reduceAdd, Nat.reduceMul, Nat.reduceLeDiff, Nat.reduceLT]
      refine cond_i (fun hb2 => ?_) (fun hb2 => ?_)
      · replace h := ifT (c := (decide (p0_0 < ((List.length a0 : Nat) : Int)))) hb2 h
        simp only [go_sem, Nat.reduceEqDiff, reduceIte, Nat.reduceAdd, Nat.reduceMul, Nat.reduceLeDiff, Nat.reduceLT]
        refine seq_go ?_
        simp only [go_sem, Nat.reduceEqDiff, reduceIte, Nat.reduceAdd, Nat.reduceMul, Nat.reduceLeDiff, Nat.reduceLT]
        obtain ⟨v7002, hv7002, h⟩ := bindE h
        refine idx_m hv7002 (Job.ds_len _) ?_
        simp only [go_sem, Nat.reduceEqDiff, reduceIte, Nat.reduceAdd, Nat.reduceMul, Nat.reduceLeDiff, Nat.reduceLT]
        obtain ⟨v7006, hv7006, h⟩ := bindE h
        refine idx_m hv7006 (Job.ds_len _) ?_
        simp only [go_sem, Nat.reduceEqDiff, reduceIte, Nat.reduceAdd, Nat.reduceMul, Nat.reduceLeDiff, Nat.reduceLT]
        obtain ⟨v7008, hv7008, h⟩ := bindE h
        refine call_i (l_eqJob_ok _ _ _ hv7008) ?_
        simp only [go_sem, Nat.reduceEqDiff, reduceIte, Nat.reduceAdd, Nat.reduceMul, Nat.reduceLeDiff, Nat.reduceLT]
        refine cond_i (fun hb3 => ?_) (fun hb3 => ?_)
        · replace h := ifT (c := (!v7008)) hb3 h
          simp only [go_sem, Nat.reduceEqDiff, reduceIte, Nat.reduceAdd, Nat.reduceMul, Nat.reduceLeDiff, Nat.reduceLT]
          obtain rfl := Option.some.inj h
          simp only [go_sem, Nat.reduceEqDiff, reduceIte, Nat.reduceAdd, Nat.reduceMul, Nat.reduceLeDiff, Nat.reduceLT]
        · replace h := ifF (c := (!v7008)) hb3 h
          simp only [go_sem, Nat.reduceEqDiff, reduceIte, Nat.reduceAdd, Nat.reduceMul, Nat.reduceLeDiff, Nat.reduceLT]
          refine seq_go ?_
          simp only [go_sem, Nat.reduceEqDiff, reduceIte, Nat.reduceAdd, Nat.reduceMul, Nat.reduceLeDiff, Nat.reduceLT]
          have hj := posF_to rfl rfl (ih0 a0 a1 (IntKind.i64.wrap (p0_0 + 1)) _ h)
          refine lp_to hj (.one ⟨_, .done _, [], [], ?_⟩)
          clear hj
          simp only [go_sem, Nat.reduceEqDiff, reduceIte, Nat.reduceAdd, Nat.reduceMul, Nat.reduceLeDiff, Nat.reduceLT]
      · replace h := ifF (c := (decide (p0_0 < ((List.length a0 : Nat) : Int)))) hb2 h
        simp only [go_sem, Nat.reduceEqDiff, reduceIte, Nat.reduceAdd, Nat.reduceMul, Nat.reduceLeDiff, Nat.reduceLT]
        refine seq_go ?_
        simp only [go_sem, Nat.reduceEqDiff, reduceIte, Nat.reduceAdd, Nat.reduceMul, Nat.reduceLeDiff, Nat.reduceLT]
        obtain rfl := Option.some.inj h
        simp only [go_sem, Nat.reduceEqDiff, reduceIte, Nat.reduceAdd, Nat.reduceMul, Nat.reduceLeDiff, Nat.reduceLT]
theorem l_eqJobS_l1_ok (n : Nat) : (∀ (a0 : List Job) (a1 : List Job) (p0_0 : Int) (r : Bool), l_eqJobS_l1 n a0 a1 p0_0 = some r → posF Try.prog Try.f67 [1, 1, 0, 1, 0] (.bool r) ⟨[(0, .ro (List.map Job.ds a0)), (1, .ro (List.map Job.ds a1)), (5, .int .i64 p0_0)], [], []⟩) := (l_eqJobS_l1_all n)

theorem l_eqJobS_ok (a0 : List Job) (a1 : List Job) (r : Bool) (h : l_eqJobS a0 a1 = some r) : AC Try.prog 67 [.ro (List.map Job.ds a0), .ro (List.map Job.ds a1)] (.bool r) := by
  unfold l_eqJobS at h
  refine ac_fn mixed Try.func67 rfl rfl rfl (by kernel_rfl) (by kernel_rfl) ?_
  simp only [go_sem, Nat.reduceEqDiff, reduceIte, Nat.reduceAdd, Nat.reduceMul, Nat.reduceLeDiff, Nat.reduceLT]
  refine cond_i (fun hb1 => ?_) (fun hb1 => ?_)
  · replace h := ifT (c := (!decide (((List.length a0 : Nat) : Int) = ((List.length a1 : Nat) : Int)))) hb1 h
    simp only [go_sem, Nat.reduceEqDiff, reduceIte, Nat.reduceAdd, Nat.reduceMul, Nat.reduceLeDiff, Nat.reduceLT]
    obtain rfl := Option.some.inj h
    simp only [go_sem, Nat.reduceEqDiff, reduceIte, Nat.reduceAdd, Nat.reduceMul, Nat.reduceLeDiff, Nat.reduceLT]
  · replace h := ifF (c := (!decide (((List.length a0 : Nat) : Int) = ((List.length a1 : Nat) : Int)))) hb1 h
    simp only [go_sem, Nat.reduceEqDiff, reduceIte, Nat.reduceAdd, Nat.reduceMul, Nat.reduceLeDiff, Nat.reduceLT]
    refine seq_go ?_
    simp only [go_sem, Nat.reduceEqDiff, reduceIte, Nat.reduceAdd, Nat.reduceMul, Nat.reduceLeDiff, Nat.reduceLT]
    have hj := posF_to rfl rfl (l_eqJobS_l1_ok fuel a0 a1 0 _ h)
    refine loop_to hj (.one ⟨_, .done _, [], [], ?_⟩)
    clear hj
    simp only [go_sem, Nat.reduceEqDiff, reduceIte, Nat.reduceAdd, Nat.reduceMul, Nat.reduceLeDiff, Nat.reduceLT]
theorem l_eqQueue_ok (a0 : Queue) (a1 : Queue) (r : Bool) (h : l_eqQueue a0 a1 = some r) : AC Try.prog 16 [.agg (Queue.avs a0), .agg (Queue.avs a1)] (.bool r) := by
  unfold l_eqQueue at h
  refine ac_fn mixed Try.func16 rfl rfl rfl (by kernel_rfl) (by kernel_rfl) ?_
  simp only [go_sem, Nat.reduceEqDiff, reduceIte, Nat.reduceAdd, Nat.reduceMul, Nat.reduceLeDiff, Nat.reduceLT]
  refine cond_i (fun hb1 => ?_) (fun hb1 => ?_)
  · replace h := ifT (c := (!decide (a0.quantum = a1.quantum))) hb1 h
    simp only [go_sem, Nat.reduceEqDiff, reduceIte, Nat.reduceAdd, Nat.reduceMul, Nat.reduceLeDiff, Nat.reduceLT]
    obtain rfl := Option.some.inj h
    simp only [go_sem, Nat.reduceEqDiff, reduceIte, Nat.reduceAdd, Nat.reduceMul, Nat.reduceLeDiff, Nat.reduceLT]
  · replace h := ifF (c := (!decide (a0.quantum = a1.quantum))) hb1 h
    simp only [go_sem, Nat.reduceEqDiff, reduceIte, Nat.reduceAdd, Nat.reduceMul, Nat.reduceLeDiff, Nat.reduceLT]
    refine seq_go ?_
    simp only [go_sem, Nat.reduceEqDiff, reduceIte, Nat.reduceAdd, Nat.reduceMul, Nat.reduceLeDiff, Nat.reduceLT]
    refine cond_i (fun hb2 => ?_) (fun hb2 => ?_)
    · replace h := ifT (c := (!decide (a0.nextId = a1.nextId))) hb2 h
      simp only [go_sem, Nat.reduceEqDiff, reduceIte, Nat.reduceAdd, Nat.reduceMul, Nat.reduceLeDiff, Nat.reduceLT]
      obtain rfl := Option.some.inj h
      simp only [go_sem, Nat.reduceEqDiff, reduceIte, Nat.reduceAdd, Nat.reduceMul, Nat.reduceLeDiff, Nat.reduceLT]
    · replace h := ifF (c := (!decide (a0.nextId = a1.nextId))) hb2 h
      simp only [go_sem, Nat.reduceEqDiff, reduceIte, Nat.reduceAdd, Nat.reduceMul, Nat.reduceLeDiff, Nat.reduceLT]
      refine seq_go ?_
      simp only [go_sem, Nat.reduceEqDiff, reduceIte, Nat.reduceAdd, Nat.reduceMul, Nat.reduceLeDiff, Nat.reduceLT]
      refine cond_i (fun hb3 => ?_) (fun hb3 => ?_)
      · replace h := ifT (c := (!decide (a0.turn = a1.turn))) hb3 h
        simp only [go_sem, Nat.reduceEqDiff, reduceIte, Nat.reduceAdd, Nat.reduceMul, Nat.reduceLeDiff, Nat.reduceLT]
        obtain rfl := Option.some.inj h
        simp only [go_sem, Nat.reduceEqDiff, reduceIte, Nat.reduceAdd, Nat.reduceMul, Nat.reduceLeDiff, Nat.reduceLT]
      · replace h := ifF (c := (!decide (a0.turn = a1.turn))) hb3 h
        simp only [go_sem, Nat.reduceEqDiff, reduceIte, Nat.reduceAdd, Nat.reduceMul, Nat.reduceLeDiff, Nat.reduceLT]
        refine seq_go ?_
        simp only [go_sem, Nat.reduceEqDiff, reduceIte, Nat.reduceAdd, Nat.reduceMul, Nat.reduceLeDiff, Nat.reduceLT]
        obtain ⟨v8004, hv8004, h⟩ := bindE h
        refine call_i (l_eqJobS_ok _ _ _ hv8004) ?_
        simp only [go_sem, Nat.reduceEqDiff, reduceIte, Nat.reduceAdd, Nat.reduceMul, Nat.reduceLeDiff, Nat.reduceLT]
        refine cond_i (fun hb4 => ?_) (fun hb4 => ?_)
        · replace h := ifT (c := (!v8004)) hb4 h
          simp only [go_sem, Nat.reduceEqDiff, reduceIte, Nat.reduceAdd, Nat.reduceMul, Nat.reduceLeDiff, Nat.reduceLT]
          obtain rfl := Option.some.inj h
          simp only [go_sem, Nat.reduceEqDiff, reduceIte, Nat.reduceAdd, Nat.reduceMul, Nat.reduceLeDiff, Nat.reduceLT]
        · replace h := ifF (c := (!v8004)) hb4 h
          simp only [go_sem, Nat.reduceEqDiff, reduceIte, Nat.reduceAdd, Nat.reduceMul, Nat.reduceLeDiff, Nat.reduceLT]
          refine seq_go ?_
          simp only [go_sem, Nat.reduceEqDiff, reduceIte, Nat.reduceAdd, Nat.reduceMul, Nat.reduceLeDiff, Nat.reduceLT]
          obtain rfl := Option.some.inj h
          simp only [go_sem, Nat.reduceEqDiff, reduceIte, Nat.reduceAdd, Nat.reduceMul, Nat.reduceLeDiff, Nat.reduceLT]
theorem l_markInt64S_l1_all (n : Nat) : (∀ (p0_0 : List Int) (p0_1 : Int) (p0_2 : Int) (z1 : Option Nat) (r : Int × (List Int)), l_markInt64S_l1 n p0_0 p0_1 p0_2 = some r → posG Try.prog Try.f36 [1, 0, 1, 0] (.int .i64 r.1) [(1, ⟨List.map i64D r.2, z1, 0⟩)] [] ⟨[(0, .own 1), (1, .int .i64 p0_1), (5, .int .i64 p0_2)], [(1, some ⟨List.map i64D p0_0, z1, 0⟩)], []⟩) := by
  induction n with
  | zero => exact ((fun _ _ _ _ _ h => by rw [l_markInt64S_l1] at h; cases h))
  | succ n ih =>
    have ih0 := ih
    · intro p0_0 p0_1 p0_2 z1 r h
      rw [l_markInt64S_l1] at h
      refine posG_of rfl rfl ?_
      simp only [go_sem, Nat.reduceEqDiff, reduceIte, Nat.reduceAdd, Nat.reduceMul, Nat.reduceLeDiff, Nat.reduceLT]
      refine loop_i ?_
      simp only [go_sem, Nat.reduceEqDiff, reduceIte, Nat.reduceAdd, Nat.reduceMul, Nat.reduceLeDiff, Nat.reduceLT]
      refine cond_i (fun hb1 => ?_) (fun hb1 => ?_)
      · replace h := ifT (c := (decide (p0_2 < ((List.length p0_0 : Nat) : Int)))) hb1 h
        simp only [go_sem, Nat.reduceEqDiff, reduceIte, Nat.reduceAdd, Nat.reduceMul, Nat.reduceLeDiff, Nat.reduceLT]
        refine seq_go ?_
        simp only [go_sem, Nat.reduceEqDiff, reduceIte, Nat.reduceAdd, Nat.reduceMul, Nat.reduceLeDiff, Nat.reduceLT]
        obtain ⟨v5003, hv5003, h⟩ := bindE h
        refine idx_m hv5003 rfl ?_
        simp only [go_sem, Nat.reduceEqDiff, reduceIte, Nat.reduceAdd, Nat.reduceMul, Nat.reduceLeDiff, Nat.reduceLT]
        obtain ⟨v5004_8, hv5004_8, h⟩ := bindE h
        refine opt_i (row_m hv5003) ?_
        simp only [go_sem, Nat.reduceEqDiff, reduceIte, Nat.reduceAdd, Nat.reduceMul, Nat.reduceLeDiff, Nat.reduceLT]
        refine row_i (List.map i64D v5004_8) (by rw [← set1_some hv5004_8]; simp only [List.map_set, go_sem, slD]) ?_
        simp only [go_sem, Nat.reduceEqDiff, reduceIte, Nat.reduceAdd, Nat.reduceMul, Nat.reduceLeDiff, Nat.reduceLT]
        refine seq_go ?_
        simp only [go_sem, Nat.reduceEqDiff, reduceIte, Nat.reduceAdd, Nat.reduceMul, Nat.reduceLeDiff, Nat.reduceLT]
        have hj := posG_to rfl rfl (ih0 v5004_8 (IntKind.i64.wrap (p0_1 + 1)) (IntKind.i64.wrap (p0_2 + 1)) z1 _ h)
        refine lp_to hj (.one ⟨_, .done _, [(1, 1)], [], ?_⟩)
        clear hj
        simp only [go_sem, Nat.reduceEqDiff, reduceIte, Nat.reduceAdd, Nat.reduceMul, Nat.reduceLeDiff, Nat.reduceLT]
      · replace h := ifF (c := (decide (p0_2 < ((List.length p0_0 : Nat) : Int)))) hb1 h
        simp only [go_sem, Nat.reduceEqDiff, reduceIte, Nat.reduceAdd, Nat.reduceMul, Nat.reduceLeDiff, Nat.reduceLT]
        refine seq_go ?_
        simp only [go_sem, Nat.reduceEqDiff, reduceIte, Nat.reduceAdd, Nat.reduceMul, Nat.reduceLeDiff, Nat.reduceLT]
        obtain rfl := Option.some.inj h
        refine ret_i (.done _) [(1, 1)] [] ?_
        simp only [go_sem, Nat.reduceEqDiff, reduceIte, Nat.reduceAdd, Nat.reduceMul, Nat.reduceLeDiff, Nat.reduceLT]
theorem l_markInt64S_l1_ok (n : Nat) : (∀ (p0_0 : List Int) (p0_1 : Int) (p0_2 : Int) (z1 : Option Nat) (r : Int × (List Int)), l_markInt64S_l1 n p0_0 p0_1 p0_2 = some r → posG Try.prog Try.f36 [1, 0, 1, 0] (.int .i64 r.1) [(1, ⟨List.map i64D r.2, z1, 0⟩)] [] ⟨[(0, .own 1), (1, .int .i64 p0_1), (5, .int .i64 p0_2)], [(1, some ⟨List.map i64D p0_0, z1, 0⟩)], []⟩) := (l_markInt64S_l1_all n)

theorem l_markInt64S_ok (a0 : List Int) (a1 : Int) (z1 : Option Nat) (r : Int × (List Int)) (h : l_markInt64S a0 a1 = some r) : AG Try.prog 36 [.own 1, .int .i64 a1] [(1, ⟨List.map i64D a0, z1, 0⟩)] [] (.int .i64 r.1) [(1, ⟨List.map i64D r.2, z1, 0⟩)] [] := by
  unfold l_markInt64S at h
  refine ag_fn mixed Try.func36 rfl rfl rfl (by kernel_rfl) (by kernel_rfl) ?_
  simp only [go_sem, Nat.reduceEqDiff, reduceIte, Nat.reduceAdd, Nat.reduceMul, Nat.reduceLeDiff, Nat.reduceLT]
  have hj := posG_to rfl rfl (l_markInt64S_l1_ok fuel a0 a1 0 z1 _ h)
  refine loop_to hj (.one ⟨_, .done _, [(1, 1)], [], ?_⟩)
  clear hj
  simp only [go_sem, Nat.reduceEqDiff, reduceIte, Nat.reduceAdd, Nat.reduceMul, Nat.reduceLeDiff, Nat.reduceLT]
theorem l_markPortS_l1_all (n : Nat) : (∀ (p0_0 : List Port) (p0_1 : Int) (p0_2 : Int) (z1 : Option Nat) (r : Int × (List Port)), l_markPortS_l1 n p0_0 p0_1 p0_2 = some r → posG Try.prog Try.f212 [1, 0, 1, 0] (.int .i64 r.1) [(1, ⟨List.map Port.ds r.2, z1, 0⟩)] [] ⟨[(0, .own 1), (1, .int .i64 p0_1), (5, .int .i64 p0_2)], [(1, some ⟨List.map Port.ds p0_0, z1, 0⟩)], []⟩) := by
  induction n with
  | zero => exact ((fun _ _ _ _ _ h => by rw [l_markPortS_l1] at h; cases h))
  | succ n ih =>
    have ih0 := ih
    · intro p0_0 p0_1 p0_2 z1 r h
      rw [l_markPortS_l1] at h
      refine posG_of rfl rfl ?_
      simp only [go_sem, Nat.reduceEqDiff, reduceIte, Nat.reduceAdd, Nat.reduceMul, Nat.reduceLeDiff, Nat.reduceLT]
      refine loop_i ?_
      simp only [go_sem, Nat.reduceEqDiff, reduceIte, Nat.reduceAdd, Nat.reduceMul, Nat.reduceLeDiff, Nat.reduceLT]
      refine cond_i (fun hb1 => ?_) (fun hb1 => ?_)
      · replace h := ifT (c := (decide (p0_2 < ((List.length p0_0 : Nat) : Int)))) hb1 h
        simp only [go_sem, Nat.reduceEqDiff, reduceIte, Nat.reduceAdd, Nat.reduceMul, Nat.reduceLeDiff, Nat.reduceLT]
        refine seq_go ?_
        simp only [go_sem, Nat.reduceEqDiff, reduceIte, Nat.reduceAdd, Nat.reduceMul, Nat.reduceLeDiff, Nat.reduceLT]
        obtain ⟨v5003, hv5003, h⟩ := bindE h
        refine idx_m hv5003 (Port.ds_len _) ?_
        simp only [go_sem, Nat.reduceEqDiff, reduceIte, Nat.reduceAdd, Nat.reduceMul, Nat.reduceLeDiff, Nat.reduceLT]
        obtain ⟨v5005_15, hv5005_15, h⟩ := bindE h
        refine opt_i (row_m hv5003) ?_
        simp only [go_sem, Nat.reduceEqDiff, reduceIte, Nat.reduceAdd, Nat.reduceMul, Nat.reduceLeDiff, Nat.reduceLT]
        refine row_i (List.map Port.ds v5005_15) (by rw [← set1_some hv5005_15]; simp only [List.map_set, go_sem, Port.ds_eq]) ?_
        simp only [go_sem, Nat.reduceEqDiff, reduceIte, Nat.reduceAdd, Nat.reduceMul, Nat.reduceLeDiff, Nat.reduceLT]
        obtain ⟨v7003, hv7003, h⟩ := bindE h
        refine idx_m hv7003 (Port.ds_len _) ?_
        simp only [go_sem, Nat.reduceEqDiff, reduceIte, Nat.reduceAdd, Nat.reduceMul, Nat.reduceLeDiff, Nat.reduceLT]
        obtain ⟨v7005_16, hv7005_16, h⟩ := bindE h
        refine opt_i (row_m hv7003) ?_
        simp only [go_sem, Nat.reduceEqDiff, reduceIte, Nat.reduceAdd, Nat.reduceMul, Nat.reduceLeDiff, Nat.reduceLT]
        refine row_i (List.map Port.ds v7005_16) (by rw [← set1_some hv7005_16]; simp only [List.map_set, go_sem, Port.ds_eq]) ?_
        simp only [go_sem, Nat.reduceEqDiff, reduceIte, Nat.reduceAdd, Nat.reduceMul, Nat.reduceLeDiff, Nat.reduceLT]
        refine seq_go ?_
        simp only [go_sem, Nat.reduceEqDiff, reduceIte, Nat.reduceAdd, Nat.reduceMul, Nat.reduceLeDiff, Nat.reduceLT]
        have hj := posG_to rfl rfl (ih0 v7005_16 (IntKind.i64.wrap ((IntKind.i64.wrap (p0_1 + 1)) + 1)) (IntKind.i64.wrap (p0_2 + 1)) z1 _ h)
        refine lp_to hj (.one ⟨_, .done _, [(1, 1)], [], ?_⟩)
        clear hj
        simp only [go_sem, Nat.reduceEqDiff, reduceIte, Nat.reduceAdd, Nat.reduceMul, Nat.reduceLeDiff, Nat.reduceLT]
      · replace h := ifF (c := (decide (p0_2 < ((List.length p0_0 : Nat) : Int)))) hb1 h
        simp only [go_sem, Nat.reduceEqDiff, reduceIte, Nat.reduceAdd, Nat.reduceMul, Nat.reduceLeDiff, Nat.reduceLT]
        refine seq_go ?_
        simp only [go_sem, Nat.reduceEqDiff, reduceIte, Nat.reduceAdd, Nat.reduceMul, Nat.reduceLeDiff, Nat.reduceLT]
        obtain rfl := Option.some.inj h
        refine ret_i (.done _) [(1, 1)] [] ?_
        simp only [go_sem, Nat.reduceEqDiff, reduceIte, Nat.reduceAdd, Nat.reduceMul, Nat.reduceLeDiff, Nat.reduceLT]
theorem l_markPortS_l1_ok (n : Nat) : (∀ (p0_0 : List Port) (p0_1 : Int) (p0_2 : Int) (z1 : Option Nat) (r : Int × (List Port)), l_markPortS_l1 n p0_0 p0_1 p0_2 = some r → posG Try.prog Try.f212 [1, 0, 1, 0] (.int .i64 r.1) [(1, ⟨List.map Port.ds r.2, z1, 0⟩)] [] ⟨[(0, .own 1), (1, .int .i64 p0_1), (5, .int .i64 p0_2)], [(1, some ⟨List.map Port.ds p0_0, z1, 0⟩)], []⟩) := (l_markPortS_l1_all n)

theorem l_markPortS_ok (a0 : List Port) (a1 : Int) (z1 : Option Nat) (r : Int × (List Port)) (h : l_markPortS a0 a1 = some r) : AG Try.prog 212 [.own 1, .int .i64 a1] [(1, ⟨List.map Port.ds a0, z1, 0⟩)] [] (.int .i64 r.1) [(1, ⟨List.map Port.ds r.2, z1, 0⟩)] [] := by
  unfold l_markPortS at h
  refine ag_fn mixed Try.func212 rfl rfl rfl (by kernel_rfl) (by kernel_rfl) ?_
  simp only [go_sem, Nat.reduceEqDiff, reduceIte, Nat.reduceAdd, Nat.reduceMul, Nat.reduceLeDiff, Nat.reduceLT]
  have hj := posG_to rfl rfl (l_markPortS_l1_ok fuel a0 a1 0 z1 _ h)
  refine loop_to hj (.one ⟨_, .done _, [(1, 1)], [], ?_⟩)
  clear hj
  simp only [go_sem, Nat.reduceEqDiff, reduceIte, Nat.reduceAdd, Nat.reduceMul, Nat.reduceLeDiff, Nat.reduceLT]
theorem l_markAgentS_l1_all (n : Nat) : (∀ (p0_0 : List Agent) (p0_1 : Int) (p0_2 : Int) (z1 : Option Nat) (r : Int × (List Agent)), l_markAgentS_l1 n p0_0 p0_1 p0_2 = some r → posG Try.prog Try.f135 [1, 0, 1, 0] (.int .i64 r.1) [(1, ⟨List.map Agent.ds r.2, z1, 0⟩)] [] ⟨[(0, .own 1), (1, .int .i64 p0_1), (5, .int .i64 p0_2)], [(1, some ⟨List.map Agent.ds p0_0, z1, 0⟩)], []⟩) := by
  induction n with
  | zero => exact ((fun _ _ _ _ _ h => by rw [l_markAgentS_l1] at h; cases h))
  | succ n ih =>
    have ih0 := ih
    · intro p0_0 p0_1 p0_2 z1 r h
      rw [l_markAgentS_l1] at h
      refine posG_of rfl rfl ?_
      simp only [go_sem, Nat.reduceEqDiff, reduceIte, Nat.reduceAdd, Nat.reduceMul, Nat.reduceLeDiff, Nat.reduceLT]
      refine loop_i ?_
      simp only [go_sem, Nat.reduceEqDiff, reduceIte, Nat.reduceAdd, Nat.reduceMul, Nat.reduceLeDiff, Nat.reduceLT]
      refine cond_i (fun hb1 => ?_) (fun hb1 => ?_)
      · replace h := ifT (c := (decide (p0_2 < ((List.length p0_0 : Nat) : Int)))) hb1 h
        simp only [go_sem, Nat.reduceEqDiff, reduceIte, Nat.reduceAdd, Nat.reduceMul, Nat.reduceLeDiff, Nat.reduceLT]
        refine seq_go ?_
        simp only [go_sem, Nat.reduceEqDiff, reduceIte, Nat.reduceAdd, Nat.reduceMul, Nat.reduceLeDiff, Nat.reduceLT]
        obtain ⟨v5003, hv5003, h⟩ := bindE h
        refine idx_m hv5003 (Agent.ds_len _) ?_
        simp only [go_sem, Nat.reduceEqDiff, reduceIte, Nat.reduceAdd, Nat.reduceMul, Nat.reduceLeDiff, Nat.reduceLT]
        obtain ⟨v5005_36, hv5005_36, h⟩ := bindE h
        refine opt_i (row_m hv5003) ?_
        simp only [go_sem, Nat.reduceEqDiff, reduceIte, Nat.reduceAdd, Nat.reduceMul, Nat.reduceLeDiff, Nat.reduceLT]
        refine row_i (List.map Agent.ds v5005_36) (by rw [← set1_some hv5005_36]; simp only [List.map_set, go_sem, Agent.ds_eq]) ?_
        simp only [go_sem, Nat.reduceEqDiff, reduceIte, Nat.reduceAdd, Nat.reduceMul, Nat.reduceLeDiff, Nat.reduceLT]
        obtain ⟨v7003, hv7003, h⟩ := bindE h
        refine idx_m hv7003 (Agent.ds_len _) ?_
        simp only [go_sem, Nat.reduceEqDiff, reduceIte, Nat.reduceAdd, Nat.reduceMul, Nat.reduceLeDiff, Nat.reduceLT]
        obtain ⟨v7005_37, hv7005_37, h⟩ := bindE h
        refine opt_i (row_m hv7003) ?_
        simp only [go_sem, Nat.reduceEqDiff, reduceIte, Nat.reduceAdd, Nat.reduceMul, Nat.reduceLeDiff, Nat.reduceLT]
        refine row_i (List.map Agent.ds v7005_37) (by rw [← set1_some hv7005_37]; simp only [List.map_set, go_sem, Agent.ds_eq]) ?_
        simp only [go_sem, Nat.reduceEqDiff, reduceIte, Nat.reduceAdd, Nat.reduceMul, Nat.reduceLeDiff, Nat.reduceLT]
        obtain ⟨v9003, hv9003, h⟩ := bindE h
        refine idx_m hv9003 (Agent.ds_len _) ?_
        simp only [go_sem, Nat.reduceEqDiff, reduceIte, Nat.reduceAdd, Nat.reduceMul, Nat.reduceLeDiff, Nat.reduceLT]
        obtain ⟨v9005_38, hv9005_38, h⟩ := bindE h
        refine opt_i (row_m hv9003) ?_
        simp only [go_sem, Nat.reduceEqDiff, reduceIte, Nat.reduceAdd, Nat.reduceMul, Nat.reduceLeDiff, Nat.reduceLT]
        refine row_i (List.map Agent.ds v9005_38) (by rw [← set1_some hv9005_38]; simp only [List.map_set, go_sem, Agent.ds_eq]) ?_
        simp only [go_sem, Nat.reduceEqDiff, reduceIte, Nat.reduceAdd, Nat.reduceMul, Nat.reduceLeDiff, Nat.reduceLT]
        obtain ⟨v11002, hv11002, h⟩ := bindE h
        refine idx_m hv11002 (Agent.ds_len _) ?_
        simp only [go_sem, Nat.reduceEqDiff, reduceIte, Nat.reduceAdd, Nat.reduceMul, Nat.reduceLeDiff, Nat.reduceLT]
        refine opt_i (row_m hv11002) ?_
        simp only [go_sem, Nat.reduceEqDiff, reduceIte, Nat.reduceAdd, Nat.reduceMul, Nat.reduceLeDiff, Nat.reduceLT]
        obtain ⟨v11006, hv11006, h⟩ := bindE h
        obtain ⟨v11006_39, hv11006_39, h⟩ := bindE h
        refine call_g ⟨[(3000176096, .sub 1 0 [(5, Int.toNat p0_2, 3)], none)], [(1, 3000176096)], [], [], [], true⟩ (by kernel_rfl) (l_markInt64S_ok _ _ none _ hv11006) (by kernel_rfl) ?_
        simp only [go_sem, Nat.reduceEqDiff, reduceIte, Nat.reduceAdd, Nat.reduceMul, Nat.reduceLeDiff, Nat.reduceLT]
        refine opt_i (getP_1 (r := List.map i64D v11002.data) (row_m hv11002) (Agent.ds_len _) (by simp only [go_sem, Agent.ds_eq])) ?_
        try simp only [go_sem, Nat.reduceEqDiff, reduceIte, Nat.reduceAdd, Nat.reduceMul, Nat.reduceLeDiff, Nat.reduceLT]
        refine row_i ((List.map Agent.ds v9005_38).set (Int.toNat p0_2) [.int .i64 v11002.kind, .int .i64 v11002.level, .int .i64 v11002.value, .gone, .sl (List.map Port.ds v11002.ports)]) ((putR_1 (row_m hv11002) (d' := .sl (List.map i64D v11002.data)) (by simp only [go_sem, Agent.ds_eq])).trans (by simp only [go_sem, Agent.ds_eq])) ?_
        try simp only [go_sem, Nat.reduceEqDiff, reduceIte, Nat.reduceAdd, Nat.reduceMul, Nat.reduceLeDiff, Nat.reduceLT]
        refine and_i (getC_1 (set_at (row_m hv11002)) rfl rfl) ?_
        try simp only [go_sem, Nat.reduceEqDiff, reduceIte, Nat.reduceAdd, Nat.reduceMul, Nat.reduceLeDiff, Nat.reduceLT]
        refine row_i (List.map Agent.ds v11006_39) (((putR_1 (set_at (row_m hv11002)) (d' := .gone) rfl).trans (List.set_set ..)).trans (by rw [← set1_some hv11006_39]; simp only [List.map_set, go_sem, Agent.ds_eq])) ?_
        try simp only [go_sem, Nat.reduceEqDiff, reduceIte, Nat.reduceAdd, Nat.reduceMul, Nat.reduceLeDiff, Nat.reduceLT]
        obtain ⟨v12002, hv12002, h⟩ := bindE h
        refine idx_m hv12002 (Agent.ds_len _) ?_
        simp only [go_sem, Nat.reduceEqDiff, reduceIte, Nat.reduceAdd, Nat.reduceMul, Nat.reduceLeDiff, Nat.reduceLT]
        refine opt_i (row_m hv12002) ?_
        simp only [go_sem, Nat.reduceEqDiff, reduceIte, Nat.reduceAdd, Nat.reduceMul, Nat.reduceLeDiff, Nat.reduceLT]
        obtain ⟨v12006, hv12006, h⟩ := bindE h
        obtain ⟨v12006_40, hv12006_40, h⟩ := bindE h
        refine call_g ⟨[(3000192096, .sub 1 0 [(5, Int.toNat p0_2, 4)], none)], [(1, 3000192096)], [], [], [], true⟩ (by kernel_rfl) (l_markPortS_ok _ _ none _ hv12006) (by kernel_rfl) ?_
        simp only [go_sem, Nat.reduceEqDiff, reduceIte, Nat.reduceAdd, Nat.reduceMul, Nat.reduceLeDiff, Nat.reduceLT]
        refine opt_i (getP_1 (r := List.map Port.ds v12002.ports) (row_m hv12002) (Agent.ds_len _) (by simp only [go_sem, Agent.ds_eq])) ?_
        try simp only [go_sem, Nat.reduceEqDiff, reduceIte, Nat.reduceAdd, Nat.reduceMul, Nat.reduceLeDiff, Nat.reduceLT]
        refine row_i ((List.map Agent.ds v11006_39).set (Int.toNat p0_2) [.int .i64 v12002.kind, .int .i64 v12002.level, .int .i64 v12002.value, .sl (List.map i64D v12002.data), .gone]) ((putR_1 (row_m hv12002) (d' := .sl (List.map Port.ds v12002.ports)) (by simp only [go_sem, Agent.ds_eq])).trans (by simp only [go_sem, Agent.ds_eq])) ?_
        try simp only [go_sem, Nat.reduceEqDiff, reduceIte, Nat.reduceAdd, Nat.reduceMul, Nat.reduceLeDiff, Nat.reduceLT]
        refine and_i (getC_1 (set_at (row_m hv12002)) rfl rfl) ?_
        try simp only [go_sem, Nat.reduceEqDiff, reduceIte, Nat.reduceAdd, Nat.reduceMul, Nat.reduceLeDiff, Nat.reduceLT]
        refine row_i (List.map Agent.ds v12006_40) (((putR_1 (set_at (row_m hv12002)) (d' := .gone) rfl).trans (List.set_set ..)).trans (by rw [← set1_some hv12006_40]; simp only [List.map_set, go_sem, Agent.ds_eq])) ?_
        try simp only [go_sem, Nat.reduceEqDiff, reduceIte, Nat.reduceAdd, Nat.reduceMul, Nat.reduceLeDiff, Nat.reduceLT]
        refine seq_go ?_
        simp only [go_sem, Nat.reduceEqDiff, reduceIte, Nat.reduceAdd, Nat.reduceMul, Nat.reduceLeDiff, Nat.reduceLT]
        have hj := posG_to rfl rfl (ih0 v12006_40 v12006.1 (IntKind.i64.wrap (p0_2 + 1)) z1 _ h)
        refine lp_to hj (.one ⟨_, .done _, [(1, 1)], [], ?_⟩)
        clear hj
        simp only [go_sem, Nat.reduceEqDiff, reduceIte, Nat.reduceAdd, Nat.reduceMul, Nat.reduceLeDiff, Nat.reduceLT]
      · replace h := ifF (c := (decide (p0_2 < ((List.length p0_0 : Nat) : Int)))) hb1 h
        simp only [go_sem, Nat.reduceEqDiff, reduceIte, Nat.reduceAdd, Nat.reduceMul, Nat.reduceLeDiff, Nat.reduceLT]
        refine seq_go ?_
        simp only [go_sem, Nat.reduceEqDiff, reduceIte, Nat.reduceAdd, Nat.reduceMul, Nat.reduceLeDiff, Nat.reduceLT]
        obtain rfl := Option.some.inj h
        refine ret_i (.done _) [(1, 1)] [] ?_
        simp only [go_sem, Nat.reduceEqDiff, reduceIte, Nat.reduceAdd, Nat.reduceMul, Nat.reduceLeDiff, Nat.reduceLT]
theorem l_markAgentS_l1_ok (n : Nat) : (∀ (p0_0 : List Agent) (p0_1 : Int) (p0_2 : Int) (z1 : Option Nat) (r : Int × (List Agent)), l_markAgentS_l1 n p0_0 p0_1 p0_2 = some r → posG Try.prog Try.f135 [1, 0, 1, 0] (.int .i64 r.1) [(1, ⟨List.map Agent.ds r.2, z1, 0⟩)] [] ⟨[(0, .own 1), (1, .int .i64 p0_1), (5, .int .i64 p0_2)], [(1, some ⟨List.map Agent.ds p0_0, z1, 0⟩)], []⟩) := (l_markAgentS_l1_all n)

theorem l_markAgentS_ok (a0 : List Agent) (a1 : Int) (z1 : Option Nat) (r : Int × (List Agent)) (h : l_markAgentS a0 a1 = some r) : AG Try.prog 135 [.own 1, .int .i64 a1] [(1, ⟨List.map Agent.ds a0, z1, 0⟩)] [] (.int .i64 r.1) [(1, ⟨List.map Agent.ds r.2, z1, 0⟩)] [] := by
  unfold l_markAgentS at h
  refine ag_fn mixed Try.func135 rfl rfl rfl (by kernel_rfl) (by kernel_rfl) ?_
  simp only [go_sem, Nat.reduceEqDiff, reduceIte, Nat.reduceAdd, Nat.reduceMul, Nat.reduceLeDiff, Nat.reduceLT]
  have hj := posG_to rfl rfl (l_markAgentS_l1_ok fuel a0 a1 0 z1 _ h)
  refine loop_to hj (.one ⟨_, .done _, [(1, 1)], [], ?_⟩)
  clear hj
  simp only [go_sem, Nat.reduceEqDiff, reduceIte, Nat.reduceAdd, Nat.reduceMul, Nat.reduceLeDiff, Nat.reduceLT]
theorem l_markNetS_l1_all (n : Nat) : (∀ (p0_0 : List Net) (p0_1 : Int) (p0_2 : Int) (z1 : Option Nat) (r : Int × (List Net)), l_markNetS_l1 n p0_0 p0_1 p0_2 = some r → posG Try.prog Try.f134 [1, 0, 1, 0] (.int .i64 r.1) [(1, ⟨List.map Net.ds r.2, z1, 0⟩)] [] ⟨[(0, .own 1), (1, .int .i64 p0_1), (5, .int .i64 p0_2)], [(1, some ⟨List.map Net.ds p0_0, z1, 0⟩)], []⟩) := by
  induction n with
  | zero => exact ((fun _ _ _ _ _ h => by rw [l_markNetS_l1] at h; cases h))
  | succ n ih =>
    have ih0 := ih
    · intro p0_0 p0_1 p0_2 z1 r h
      rw [l_markNetS_l1] at h
      refine posG_of rfl rfl ?_
      simp only [go_sem, Nat.reduceEqDiff, reduceIte, Nat.reduceAdd, Nat.reduceMul, Nat.reduceLeDiff, Nat.reduceLT]
      refine loop_i ?_
      simp only [go_sem, Nat.reduceEqDiff, reduceIte, Nat.reduceAdd, Nat.reduceMul, Nat.reduceLeDiff, Nat.reduceLT]
      refine cond_i (fun hb1 => ?_) (fun hb1 => ?_)
      · replace h := ifT (c := (decide (p0_2 < ((List.length p0_0 : Nat) : Int)))) hb1 h
        simp only [go_sem, Nat.reduceEqDiff, reduceIte, Nat.reduceAdd, Nat.reduceMul, Nat.reduceLeDiff, Nat.reduceLT]
        refine seq_go ?_
        simp only [go_sem, Nat.reduceEqDiff, reduceIte, Nat.reduceAdd, Nat.reduceMul, Nat.reduceLeDiff, Nat.reduceLT]
        obtain ⟨v5002, hv5002, h⟩ := bindE h
        refine idx_m hv5002 (Net.ds_len _) ?_
        simp only [go_sem, Nat.reduceEqDiff, reduceIte, Nat.reduceAdd, Nat.reduceMul, Nat.reduceLeDiff, Nat.reduceLT]
        refine opt_i (row_m hv5002) ?_
        simp only [go_sem, Nat.reduceEqDiff, reduceIte, Nat.reduceAdd, Nat.reduceMul, Nat.reduceLeDiff, Nat.reduceLT]
        obtain ⟨v5006, hv5006, h⟩ := bindE h
        obtain ⟨v5006_8, hv5006_8, h⟩ := bindE h
        refine call_g ⟨[(3000080096, .sub 1 0 [(1, Int.toNat p0_2, 0)], none)], [(1, 3000080096)], [], [], [], true⟩ (by kernel_rfl) (l_markAgentS_ok _ _ none _ hv5006) (by kernel_rfl) ?_
        simp only [go_sem, Nat.reduceEqDiff, reduceIte, Nat.reduceAdd, Nat.reduceMul, Nat.reduceLeDiff, Nat.reduceLT]
        refine opt_i (getP_1 (r := List.map Agent.ds v5002.agents) (row_m hv5002) (Net.ds_len _) (by simp only [go_sem, Net.ds_eq])) ?_
        try simp only [go_sem, Nat.reduceEqDiff, reduceIte, Nat.reduceAdd, Nat.reduceMul, Nat.reduceLeDiff, Nat.reduceLT]
        refine row_i ((List.map Net.ds p0_0).set (Int.toNat p0_2) [.gone]) ((putR_1 (row_m hv5002) (d' := .sl (List.map Agent.ds v5002.agents)) (by simp only [go_sem, Net.ds_eq])).trans (by simp only [go_sem, Net.ds_eq])) ?_
        try simp only [go_sem, Nat.reduceEqDiff, reduceIte, Nat.reduceAdd, Nat.reduceMul, Nat.reduceLeDiff, Nat.reduceLT]
        refine and_i (getC_1 (set_at (row_m hv5002)) rfl rfl) ?_
        try simp only [go_sem, Nat.reduceEqDiff, reduceIte, Nat.reduceAdd, Nat.reduceMul, Nat.reduceLeDiff, Nat.reduceLT]
        refine row_i (List.map Net.ds v5006_8) (((putR_1 (set_at (row_m hv5002)) (d' := .gone) rfl).trans (List.set_set ..)).trans (by rw [← set1_some hv5006_8]; simp only [List.map_set, go_sem, Net.ds_eq])) ?_
        try simp only [go_sem, Nat.reduceEqDiff, reduceIte, Nat.reduceAdd, Nat.reduceMul, Nat.reduceLeDiff, Nat.reduceLT]
        refine seq_go ?_
        simp only [go_sem, Nat.reduceEqDiff, reduceIte, Nat.reduceAdd, Nat.reduceMul, Nat.reduceLeDiff, Nat.reduceLT]
        have hj := posG_to rfl rfl (ih0 v5006_8 v5006.1 (IntKind.i64.wrap (p0_2 + 1)) z1 _ h)
        refine lp_to hj (.one ⟨_, .done _, [(1, 1)], [], ?_⟩)
        clear hj
        simp only [go_sem, Nat.reduceEqDiff, reduceIte, Nat.reduceAdd, Nat.reduceMul, Nat.reduceLeDiff, Nat.reduceLT]
      · replace h := ifF (c := (decide (p0_2 < ((List.length p0_0 : Nat) : Int)))) hb1 h
        simp only [go_sem, Nat.reduceEqDiff, reduceIte, Nat.reduceAdd, Nat.reduceMul, Nat.reduceLeDiff, Nat.reduceLT]
        refine seq_go ?_
        simp only [go_sem, Nat.reduceEqDiff, reduceIte, Nat.reduceAdd, Nat.reduceMul, Nat.reduceLeDiff, Nat.reduceLT]
        obtain rfl := Option.some.inj h
        refine ret_i (.done _) [(1, 1)] [] ?_
        simp only [go_sem, Nat.reduceEqDiff, reduceIte, Nat.reduceAdd, Nat.reduceMul, Nat.reduceLeDiff, Nat.reduceLT]
theorem l_markNetS_l1_ok (n : Nat) : (∀ (p0_0 : List Net) (p0_1 : Int) (p0_2 : Int) (z1 : Option Nat) (r : Int × (List Net)), l_markNetS_l1 n p0_0 p0_1 p0_2 = some r → posG Try.prog Try.f134 [1, 0, 1, 0] (.int .i64 r.1) [(1, ⟨List.map Net.ds r.2, z1, 0⟩)] [] ⟨[(0, .own 1), (1, .int .i64 p0_1), (5, .int .i64 p0_2)], [(1, some ⟨List.map Net.ds p0_0, z1, 0⟩)], []⟩) := (l_markNetS_l1_all n)

theorem l_markNetS_ok (a0 : List Net) (a1 : Int) (z1 : Option Nat) (r : Int × (List Net)) (h : l_markNetS a0 a1 = some r) : AG Try.prog 134 [.own 1, .int .i64 a1] [(1, ⟨List.map Net.ds a0, z1, 0⟩)] [] (.int .i64 r.1) [(1, ⟨List.map Net.ds r.2, z1, 0⟩)] [] := by
  unfold l_markNetS at h
  refine ag_fn mixed Try.func134 rfl rfl rfl (by kernel_rfl) (by kernel_rfl) ?_
  simp only [go_sem, Nat.reduceEqDiff, reduceIte, Nat.reduceAdd, Nat.reduceMul, Nat.reduceLeDiff, Nat.reduceLT]
  have hj := posG_to rfl rfl (l_markNetS_l1_ok fuel a0 a1 0 z1 _ h)
  refine loop_to hj (.one ⟨_, .done _, [(1, 1)], [], ?_⟩)
  clear hj
  simp only [go_sem, Nat.reduceEqDiff, reduceIte, Nat.reduceAdd, Nat.reduceMul, Nat.reduceLeDiff, Nat.reduceLT]
theorem l_markJobS_l1_all (n : Nat) : (∀ (p0_0 : List Job) (p0_1 : Int) (p0_2 : Int) (z1 : Option Nat) (r : Int × (List Job)), l_markJobS_l1 n p0_0 p0_1 p0_2 = some r → posG Try.prog Try.f68 [1, 0, 1, 0] (.int .i64 r.1) [(1, ⟨List.map Job.ds r.2, z1, 0⟩)] [] ⟨[(0, .own 1), (1, .int .i64 p0_1), (5, .int .i64 p0_2)], [(1, some ⟨List.map Job.ds p0_0, z1, 0⟩)], []⟩) := by
  induction n with
  | zero => exact ((fun _ _ _ _ _ h => by rw [l_markJobS_l1] at h; cases h))
  | succ n ih =>
    have ih0 := ih
    · intro p0_0 p0_1 p0_2 z1 r h
      rw [l_markJobS_l1] at h
      refine posG_of rfl rfl ?_
      simp only [go_sem, Nat.reduceEqDiff, reduceIte, Nat.reduceAdd, Nat.reduceMul, Nat.reduceLeDiff, Nat.reduceLT]
      refine loop_i ?_
      simp only [go_sem, Nat.reduceEqDiff, reduceIte, Nat.reduceAdd, Nat.reduceMul, Nat.reduceLeDiff, Nat.reduceLT]
      refine cond_i (fun hb1 => ?_) (fun hb1 => ?_)
      · replace h := ifT (c := (decide (p0_2 < ((List.length p0_0 : Nat) : Int)))) hb1 h
        simp only [go_sem, Nat.reduceEqDiff, reduceIte, Nat.reduceAdd, Nat.reduceMul, Nat.reduceLeDiff, Nat.reduceLT]
        refine seq_go ?_
        simp only [go_sem, Nat.reduceEqDiff, reduceIte, Nat.reduceAdd, Nat.reduceMul, Nat.reduceLeDiff, Nat.reduceLT]
        obtain ⟨v5003, hv5003, h⟩ := bindE h
        refine idx_m hv5003 (Job.ds_len _) ?_
        simp only [go_sem, Nat.reduceEqDiff, reduceIte, Nat.reduceAdd, Nat.reduceMul, Nat.reduceLeDiff, Nat.reduceLT]
        obtain ⟨v5005_71, hv5005_71, h⟩ := bindE h
        refine opt_i (row_m hv5003) ?_
        simp only [go_sem, Nat.reduceEqDiff, reduceIte, Nat.reduceAdd, Nat.reduceMul, Nat.reduceLeDiff, Nat.reduceLT]
        refine row_i (List.map Job.ds v5005_71) (by rw [← set1_some hv5005_71]; simp only [List.map_set, go_sem, Job.ds_eq]) ?_
        simp only [go_sem, Nat.reduceEqDiff, reduceIte, Nat.reduceAdd, Nat.reduceMul, Nat.reduceLeDiff, Nat.reduceLT]
        obtain ⟨v7003, hv7003, h⟩ := bindE h
        refine idx_m hv7003 (Job.ds_len _) ?_
        simp only [go_sem, Nat.reduceEqDiff, reduceIte, Nat.reduceAdd, Nat.reduceMul, Nat.reduceLeDiff, Nat.reduceLT]
        obtain ⟨v7005_72, hv7005_72, h⟩ := bindE h
        refine opt_i (row_m hv7003) ?_
        simp only [go_sem, Nat.reduceEqDiff, reduceIte, Nat.reduceAdd, Nat.reduceMul, Nat.reduceLeDiff, Nat.reduceLT]
        refine row_i (List.map Job.ds v7005_72) (by rw [← set1_some hv7005_72]; simp only [List.map_set, go_sem, Job.ds_eq]) ?_
        simp only [go_sem, Nat.reduceEqDiff, reduceIte, Nat.reduceAdd, Nat.reduceMul, Nat.reduceLeDiff, Nat.reduceLT]
        obtain ⟨v9003, hv9003, h⟩ := bindE h
        refine idx_m hv9003 (Job.ds_len _) ?_
        simp only [go_sem, Nat.reduceEqDiff, reduceIte, Nat.reduceAdd, Nat.reduceMul, Nat.reduceLeDiff, Nat.reduceLT]
        obtain ⟨v9005_73, hv9005_73, h⟩ := bindE h
        refine opt_i (row_m hv9003) ?_
        simp only [go_sem, Nat.reduceEqDiff, reduceIte, Nat.reduceAdd, Nat.reduceMul, Nat.reduceLeDiff, Nat.reduceLT]
        refine row_i (List.map Job.ds v9005_73) (by rw [← set1_some hv9005_73]; simp only [List.map_set, go_sem, Job.ds_eq]) ?_
        simp only [go_sem, Nat.reduceEqDiff, reduceIte, Nat.reduceAdd, Nat.reduceMul, Nat.reduceLeDiff, Nat.reduceLT]
        obtain ⟨v11003, hv11003, h⟩ := bindE h
        refine idx_m hv11003 (Job.ds_len _) ?_
        simp only [go_sem, Nat.reduceEqDiff, reduceIte, Nat.reduceAdd, Nat.reduceMul, Nat.reduceLeDiff, Nat.reduceLT]
        obtain ⟨v11005_74, hv11005_74, h⟩ := bindE h
        refine opt_i (row_m hv11003) ?_
        simp only [go_sem, Nat.reduceEqDiff, reduceIte, Nat.reduceAdd, Nat.reduceMul, Nat.reduceLeDiff, Nat.reduceLT]
        refine row_i (List.map Job.ds v11005_74) (by rw [← set1_some hv11005_74]; simp only [List.map_set, go_sem, Job.ds_eq]) ?_
        simp only [go_sem, Nat.reduceEqDiff, reduceIte, Nat.reduceAdd, Nat.reduceMul, Nat.reduceLeDiff, Nat.reduceLT]
        obtain ⟨v13003, hv13003, h⟩ := bindE h
        refine idx_m hv13003 (Job.ds_len _) ?_
        simp only [go_sem, Nat.reduceEqDiff, reduceIte, Nat.reduceAdd, Nat.reduceMul, Nat.reduceLeDiff, Nat.reduceLT]
        obtain ⟨v13005_75, hv13005_75, h⟩ := bindE h
        refine opt_i (row_m hv13003) ?_
        simp only [go_sem, Nat.reduceEqDiff, reduceIte, Nat.reduceAdd, Nat.reduceMul, Nat.reduceLeDiff, Nat.reduceLT]
        refine row_i (List.map Job.ds v13005_75) (by rw [← set1_some hv13005_75]; simp only [List.map_set, go_sem, Job.ds_eq]) ?_
        simp only [go_sem, Nat.reduceEqDiff, reduceIte, Nat.reduceAdd, Nat.reduceMul, Nat.reduceLeDiff, Nat.reduceLT]
        obtain ⟨v15003, hv15003, h⟩ := bindE h
        refine idx_m hv15003 (Job.ds_len _) ?_
        simp only [go_sem, Nat.reduceEqDiff, reduceIte, Nat.reduceAdd, Nat.reduceMul, Nat.reduceLeDiff, Nat.reduceLT]
        obtain ⟨v15005_76, hv15005_76, h⟩ := bindE h
        refine opt_i (row_m hv15003) ?_
        simp only [go_sem, Nat.reduceEqDiff, reduceIte, Nat.reduceAdd, Nat.reduceMul, Nat.reduceLeDiff, Nat.reduceLT]
        refine row_i (List.map Job.ds v15005_76) (by rw [← set1_some hv15005_76]; simp only [List.map_set, go_sem, Job.ds_eq]) ?_
        simp only [go_sem, Nat.reduceEqDiff, reduceIte, Nat.reduceAdd, Nat.reduceMul, Nat.reduceLeDiff, Nat.reduceLT]
        obtain ⟨v17002, hv17002, h⟩ := bindE h
        refine idx_m hv17002 (Job.ds_len _) ?_
        simp only [go_sem, Nat.reduceEqDiff, reduceIte, Nat.reduceAdd, Nat.reduceMul, Nat.reduceLeDiff, Nat.reduceLT]
        refine opt_i (row_m hv17002) ?_
        simp only [go_sem, Nat.reduceEqDiff, reduceIte, Nat.reduceAdd, Nat.reduceMul, Nat.reduceLeDiff, Nat.reduceLT]
        obtain ⟨v17006, hv17006, h⟩ := bindE h
        obtain ⟨v17006_77, hv17006_77, h⟩ := bindE h
        refine call_g ⟨[(3000272096, .sub 1 0 [(10, Int.toNat p0_2, 6)], none)], [(1, 3000272096)], [], [], [], true⟩ (by kernel_rfl) (l_markInt64S_ok _ _ none _ hv17006) (by kernel_rfl) ?_
        simp only [go_sem, Nat.reduceEqDiff, reduceIte, Nat.reduceAdd, Nat.reduceMul, Nat.reduceLeDiff, Nat.reduceLT]
        refine opt_i (getP_1 (r := List.map i64D v17002.counts) (row_m hv17002) (Job.ds_len _) (by simp only [go_sem, Job.ds_eq])) ?_
        try simp only [go_sem, Nat.reduceEqDiff, reduceIte, Nat.reduceAdd, Nat.reduceMul, Nat.reduceLeDiff, Nat.reduceLT]
        refine row_i ((List.map Job.ds v15005_76).set (Int.toNat p0_2) [.int .i64 v17002.id, .int .i64 v17002.weight, .int .i64 v17002.state, .int .i64 v17002.code, .int .i64 v17002.left, .int .i64 v17002.slices, .gone, .sl (List.map i64D v17002.schedule), .sl (List.map Net.ds v17002.book), .sl (List.map Agent.ds v17002.net.agents)]) ((putR_1 (row_m hv17002) (d' := .sl (List.map i64D v17002.counts)) (by simp only [go_sem, Job.ds_eq])).trans (by simp only [go_sem, Job.ds_eq])) ?_
        try simp only [go_sem, Nat.reduceEqDiff, reduceIte, Nat.reduceAdd, Nat.reduceMul, Nat.reduceLeDiff, Nat.reduceLT]
        refine and_i (getC_1 (set_at (row_m hv17002)) rfl rfl) ?_
        try simp only [go_sem, Nat.reduceEqDiff, reduceIte, Nat.reduceAdd, Nat.reduceMul, Nat.reduceLeDiff, Nat.reduceLT]
        refine row_i (List.map Job.ds v17006_77) (((putR_1 (set_at (row_m hv17002)) (d' := .gone) rfl).trans (List.set_set ..)).trans (by rw [← set1_some hv17006_77]; simp only [List.map_set, go_sem, Job.ds_eq])) ?_
        try simp only [go_sem, Nat.reduceEqDiff, reduceIte, Nat.reduceAdd, Nat.reduceMul, Nat.reduceLeDiff, Nat.reduceLT]
        obtain ⟨v18002, hv18002, h⟩ := bindE h
        refine idx_m hv18002 (Job.ds_len _) ?_
        simp only [go_sem, Nat.reduceEqDiff, reduceIte, Nat.reduceAdd, Nat.reduceMul, Nat.reduceLeDiff, Nat.reduceLT]
        refine opt_i (row_m hv18002) ?_
        simp only [go_sem, Nat.reduceEqDiff, reduceIte, Nat.reduceAdd, Nat.reduceMul, Nat.reduceLeDiff, Nat.reduceLT]
        obtain ⟨v18006, hv18006, h⟩ := bindE h
        obtain ⟨v18006_78, hv18006_78, h⟩ := bindE h
        refine call_g ⟨[(3000288096, .sub 1 0 [(10, Int.toNat p0_2, 7)], none)], [(1, 3000288096)], [], [], [], true⟩ (by kernel_rfl) (l_markInt64S_ok _ _ none _ hv18006) (by kernel_rfl) ?_
        simp only [go_sem, Nat.reduceEqDiff, reduceIte, Nat.reduceAdd, Nat.reduceMul, Nat.reduceLeDiff, Nat.reduceLT]
        refine opt_i (getP_1 (r := List.map i64D v18002.schedule) (row_m hv18002) (Job.ds_len _) (by simp only [go_sem, Job.ds_eq])) ?_
        try simp only [go_sem, Nat.reduceEqDiff, reduceIte, Nat.reduceAdd, Nat.reduceMul, Nat.reduceLeDiff, Nat.reduceLT]
        refine row_i ((List.map Job.ds v17006_77).set (Int.toNat p0_2) [.int .i64 v18002.id, .int .i64 v18002.weight, .int .i64 v18002.state, .int .i64 v18002.code, .int .i64 v18002.left, .int .i64 v18002.slices, .sl (List.map i64D v18002.counts), .gone, .sl (List.map Net.ds v18002.book), .sl (List.map Agent.ds v18002.net.agents)]) ((putR_1 (row_m hv18002) (d' := .sl (List.map i64D v18002.schedule)) (by simp only [go_sem, Job.ds_eq])).trans (by simp only [go_sem, Job.ds_eq])) ?_
        try simp only [go_sem, Nat.reduceEqDiff, reduceIte, Nat.reduceAdd, Nat.reduceMul, Nat.reduceLeDiff, Nat.reduceLT]
        refine and_i (getC_1 (set_at (row_m hv18002)) rfl rfl) ?_
        try simp only [go_sem, Nat.reduceEqDiff, reduceIte, Nat.reduceAdd, Nat.reduceMul, Nat.reduceLeDiff, Nat.reduceLT]
        refine row_i (List.map Job.ds v18006_78) (((putR_1 (set_at (row_m hv18002)) (d' := .gone) rfl).trans (List.set_set ..)).trans (by rw [← set1_some hv18006_78]; simp only [List.map_set, go_sem, Job.ds_eq])) ?_
        try simp only [go_sem, Nat.reduceEqDiff, reduceIte, Nat.reduceAdd, Nat.reduceMul, Nat.reduceLeDiff, Nat.reduceLT]
        obtain ⟨v19002, hv19002, h⟩ := bindE h
        refine idx_m hv19002 (Job.ds_len _) ?_
        simp only [go_sem, Nat.reduceEqDiff, reduceIte, Nat.reduceAdd, Nat.reduceMul, Nat.reduceLeDiff, Nat.reduceLT]
        refine opt_i (row_m hv19002) ?_
        simp only [go_sem, Nat.reduceEqDiff, reduceIte, Nat.reduceAdd, Nat.reduceMul, Nat.reduceLeDiff, Nat.reduceLT]
        obtain ⟨v19006, hv19006, h⟩ := bindE h
        obtain ⟨v19006_79, hv19006_79, h⟩ := bindE h
        refine call_g ⟨[(3000304096, .sub 1 0 [(10, Int.toNat p0_2, 8)], none)], [(1, 3000304096)], [], [], [], true⟩ (by kernel_rfl) (l_markNetS_ok _ _ none _ hv19006) (by kernel_rfl) ?_
        simp only [go_sem, Nat.reduceEqDiff, reduceIte, Nat.reduceAdd, Nat.reduceMul, Nat.reduceLeDiff, Nat.reduceLT]
        refine opt_i (getP_1 (r := List.map Net.ds v19002.book) (row_m hv19002) (Job.ds_len _) (by simp only [go_sem, Job.ds_eq])) ?_
        try simp only [go_sem, Nat.reduceEqDiff, reduceIte, Nat.reduceAdd, Nat.reduceMul, Nat.reduceLeDiff, Nat.reduceLT]
        refine row_i ((List.map Job.ds v18006_78).set (Int.toNat p0_2) [.int .i64 v19002.id, .int .i64 v19002.weight, .int .i64 v19002.state, .int .i64 v19002.code, .int .i64 v19002.left, .int .i64 v19002.slices, .sl (List.map i64D v19002.counts), .sl (List.map i64D v19002.schedule), .gone, .sl (List.map Agent.ds v19002.net.agents)]) ((putR_1 (row_m hv19002) (d' := .sl (List.map Net.ds v19002.book)) (by simp only [go_sem, Job.ds_eq])).trans (by simp only [go_sem, Job.ds_eq])) ?_
        try simp only [go_sem, Nat.reduceEqDiff, reduceIte, Nat.reduceAdd, Nat.reduceMul, Nat.reduceLeDiff, Nat.reduceLT]
        refine and_i (getC_1 (set_at (row_m hv19002)) rfl rfl) ?_
        try simp only [go_sem, Nat.reduceEqDiff, reduceIte, Nat.reduceAdd, Nat.reduceMul, Nat.reduceLeDiff, Nat.reduceLT]
        refine row_i (List.map Job.ds v19006_79) (((putR_1 (set_at (row_m hv19002)) (d' := .gone) rfl).trans (List.set_set ..)).trans (by rw [← set1_some hv19006_79]; simp only [List.map_set, go_sem, Job.ds_eq])) ?_
        try simp only [go_sem, Nat.reduceEqDiff, reduceIte, Nat.reduceAdd, Nat.reduceMul, Nat.reduceLeDiff, Nat.reduceLT]
        obtain ⟨v20002, hv20002, h⟩ := bindE h
        refine idx_m hv20002 (Job.ds_len _) ?_
        simp only [go_sem, Nat.reduceEqDiff, reduceIte, Nat.reduceAdd, Nat.reduceMul, Nat.reduceLeDiff, Nat.reduceLT]
        refine opt_i (row_m hv20002) ?_
        simp only [go_sem, Nat.reduceEqDiff, reduceIte, Nat.reduceAdd, Nat.reduceMul, Nat.reduceLeDiff, Nat.reduceLT]
        obtain ⟨v20007, hv20007, h⟩ := bindE h
        obtain ⟨v20007_80, hv20007_80, h⟩ := bindE h
        refine call_g ⟨[(3000320112, .sub 1 0 [(10, Int.toNat p0_2, 9)], none)], [(1, 3000320112)], [], [], [], true⟩ (by kernel_rfl) (l_markAgentS_ok _ _ none _ hv20007) (by kernel_rfl) ?_
        simp only [go_sem, Nat.reduceEqDiff, reduceIte, Nat.reduceAdd, Nat.reduceMul, Nat.reduceLeDiff, Nat.reduceLT]
        refine opt_i (getP_1 (r := List.map Agent.ds v20002.net.agents) (row_m hv20002) (Job.ds_len _) (by simp only [go_sem, Job.ds_eq])) ?_
        try simp only [go_sem, Nat.reduceEqDiff, reduceIte, Nat.reduceAdd, Nat.reduceMul, Nat.reduceLeDiff, Nat.reduceLT]
        refine row_i ((List.map Job.ds v19006_79).set (Int.toNat p0_2) [.int .i64 v20002.id, .int .i64 v20002.weight, .int .i64 v20002.state, .int .i64 v20002.code, .int .i64 v20002.left, .int .i64 v20002.slices, .sl (List.map i64D v20002.counts), .sl (List.map i64D v20002.schedule), .sl (List.map Net.ds v20002.book), .gone]) ((putR_1 (row_m hv20002) (d' := .sl (List.map Agent.ds v20002.net.agents)) (by simp only [go_sem, Job.ds_eq])).trans (by simp only [go_sem, Job.ds_eq])) ?_
        try simp only [go_sem, Nat.reduceEqDiff, reduceIte, Nat.reduceAdd, Nat.reduceMul, Nat.reduceLeDiff, Nat.reduceLT]
        refine and_i (getC_1 (set_at (row_m hv20002)) rfl rfl) ?_
        try simp only [go_sem, Nat.reduceEqDiff, reduceIte, Nat.reduceAdd, Nat.reduceMul, Nat.reduceLeDiff, Nat.reduceLT]
        refine row_i (List.map Job.ds v20007_80) (((putR_1 (set_at (row_m hv20002)) (d' := .gone) rfl).trans (List.set_set ..)).trans (by rw [← set1_some hv20007_80]; simp only [List.map_set, go_sem, Job.ds_eq])) ?_
        try simp only [go_sem, Nat.reduceEqDiff, reduceIte, Nat.reduceAdd, Nat.reduceMul, Nat.reduceLeDiff, Nat.reduceLT]
        refine seq_go ?_
        simp only [go_sem, Nat.reduceEqDiff, reduceIte, Nat.reduceAdd, Nat.reduceMul, Nat.reduceLeDiff, Nat.reduceLT]
        have hj := posG_to rfl rfl (ih0 v20007_80 v20007.1 (IntKind.i64.wrap (p0_2 + 1)) z1 _ h)
        refine lp_to hj (.one ⟨_, .done _, [(1, 1)], [], ?_⟩)
        clear hj
        simp only [go_sem, Nat.reduceEqDiff, reduceIte, Nat.reduceAdd, Nat.reduceMul, Nat.reduceLeDiff, Nat.reduceLT]
      · replace h := ifF (c := (decide (p0_2 < ((List.length p0_0 : Nat) : Int)))) hb1 h
        simp only [go_sem, Nat.reduceEqDiff, reduceIte, Nat.reduceAdd, Nat.reduceMul, Nat.reduceLeDiff, Nat.reduceLT]
        refine seq_go ?_
        simp only [go_sem, Nat.reduceEqDiff, reduceIte, Nat.reduceAdd, Nat.reduceMul, Nat.reduceLeDiff, Nat.reduceLT]
        obtain rfl := Option.some.inj h
        refine ret_i (.done _) [(1, 1)] [] ?_
        simp only [go_sem, Nat.reduceEqDiff, reduceIte, Nat.reduceAdd, Nat.reduceMul, Nat.reduceLeDiff, Nat.reduceLT]
theorem l_markJobS_l1_ok (n : Nat) : (∀ (p0_0 : List Job) (p0_1 : Int) (p0_2 : Int) (z1 : Option Nat) (r : Int × (List Job)), l_markJobS_l1 n p0_0 p0_1 p0_2 = some r → posG Try.prog Try.f68 [1, 0, 1, 0] (.int .i64 r.1) [(1, ⟨List.map Job.ds r.2, z1, 0⟩)] [] ⟨[(0, .own 1), (1, .int .i64 p0_1), (5, .int .i64 p0_2)], [(1, some ⟨List.map Job.ds p0_0, z1, 0⟩)], []⟩) := (l_markJobS_l1_all n)

theorem l_markJobS_ok (a0 : List Job) (a1 : Int) (z1 : Option Nat) (r : Int × (List Job)) (h : l_markJobS a0 a1 = some r) : AG Try.prog 68 [.own 1, .int .i64 a1] [(1, ⟨List.map Job.ds a0, z1, 0⟩)] [] (.int .i64 r.1) [(1, ⟨List.map Job.ds r.2, z1, 0⟩)] [] := by
  unfold l_markJobS at h
  refine ag_fn mixed Try.func68 rfl rfl rfl (by kernel_rfl) (by kernel_rfl) ?_
  simp only [go_sem, Nat.reduceEqDiff, reduceIte, Nat.reduceAdd, Nat.reduceMul, Nat.reduceLeDiff, Nat.reduceLT]
  have hj := posG_to rfl rfl (l_markJobS_l1_ok fuel a0 a1 0 z1 _ h)
  refine loop_to hj (.one ⟨_, .done _, [(1, 1)], [], ?_⟩)
  clear hj
  simp only [go_sem, Nat.reduceEqDiff, reduceIte, Nat.reduceAdd, Nat.reduceMul, Nat.reduceLeDiff, Nat.reduceLT]
theorem l_markQueue_ok (a0 : Queue) (a1 : Int) (z1 : Option Nat) (r : Int × (List Job)) (h : l_markQueue a0 a1 = some r) : AG Try.prog 17 [.agg [.int .i64 a0.quantum, .int .i64 a0.nextId, .int .i64 a0.turn, .own 1], .int .i64 a1] [(1, ⟨List.map Job.ds a0.jobs, z1, 0⟩)] [] (.int .i64 r.1) [(1, ⟨List.map Job.ds r.2, z1, 0⟩)] [] := by
  unfold l_markQueue at h
  refine ag_fn mixed Try.func17 rfl rfl rfl (by kernel_rfl) (by kernel_rfl) ?_
  simp only [go_sem, Nat.reduceEqDiff, reduceIte, Nat.reduceAdd, Nat.reduceMul, Nat.reduceLeDiff, Nat.reduceLT]
  obtain ⟨v2003, hv2003, h⟩ := bindE h
  refine call_g ⟨[], [(1, 1)], [], [], [], true⟩ (by kernel_rfl) (l_markJobS_ok _ _ z1 _ hv2003) (by kernel_rfl) ?_
  simp only [go_sem, Nat.reduceEqDiff, reduceIte, Nat.reduceAdd, Nat.reduceMul, Nat.reduceLeDiff, Nat.reduceLT]
  obtain rfl := Option.some.inj h
  refine ret_i (.done _) [(1, 1)] [] ?_
  simp only [go_sem, Nat.reduceEqDiff, reduceIte, Nat.reduceAdd, Nat.reduceMul, Nat.reduceLeDiff, Nat.reduceLT]
theorem l_heldInt64S_l1_all (n : Nat) : (∀ (a0 : List Int) (p0_0 : Int) (p0_1 : Int) (r : Int), l_heldInt64S_l1 n a0 p0_0 p0_1 = some r → posF Try.prog Try.f37 [1, 0, 1, 0] (.int .i64 r) ⟨[(0, .ro (List.map i64D a0)), (1, .int .i64 p0_0), (5, .int .i64 p0_1)], [], []⟩) := by
  induction n with
  | zero => exact ((fun _ _ _ _ h => by rw [l_heldInt64S_l1] at h; cases h))
  | succ n ih =>
    have ih0 := ih
    · intro a0 p0_0 p0_1 r h
      rw [l_heldInt64S_l1] at h
      refine posF_of rfl rfl ?_
      simp only [go_sem, Nat.reduceEqDiff, reduceIte, Nat.reduceAdd, Nat.reduceMul, Nat.reduceLeDiff, Nat.reduceLT]
      refine loop_i ?_
      simp only [go_sem, Nat.reduceEqDiff, reduceIte, Nat.reduceAdd, Nat.reduceMul, Nat.reduceLeDiff, Nat.reduceLT]
      refine cond_i (fun hb1 => ?_) (fun hb1 => ?_)
      · replace h := ifT (c := (decide (p0_1 < ((List.length a0 : Nat) : Int)))) hb1 h
        simp only [go_sem, Nat.reduceEqDiff, reduceIte, Nat.reduceAdd, Nat.reduceMul, Nat.reduceLeDiff, Nat.reduceLT]
        refine seq_go ?_
        simp only [go_sem, Nat.reduceEqDiff, reduceIte, Nat.reduceAdd, Nat.reduceMul, Nat.reduceLeDiff, Nat.reduceLT]
        obtain ⟨v5002, hv5002, h⟩ := bindE h
        refine idx_m hv5002 rfl ?_
        simp only [go_sem, Nat.reduceEqDiff, reduceIte, Nat.reduceAdd, Nat.reduceMul, Nat.reduceLeDiff, Nat.reduceLT]
        refine cond_i (fun hb2 => ?_) (fun hb2 => ?_)
        · replace h := ifT (c := (!decide (v5002 = p0_0))) hb2 h
          simp only [go_sem, Nat.reduceEqDiff, reduceIte, Nat.reduceAdd, Nat.reduceMul, Nat.reduceLeDiff, Nat.reduceLT]
          obtain rfl := Option.some.inj h
          simp only [go_sem, Nat.reduceEqDiff, reduceIte, Nat.reduceAdd, Nat.reduceMul, Nat.reduceLeDiff, Nat.reduceLT]
        · replace h := ifF (c := (!decide (v5002 = p0_0))) hb2 h
          simp only [go_sem, Nat.reduceEqDiff, reduceIte, Nat.reduceAdd, Nat.reduceMul, Nat.reduceLeDiff, Nat.reduceLT]
          refine seq_go ?_
          simp only [go_sem, Nat.reduceEqDiff, reduceIte, Nat.reduceAdd, Nat.reduceMul, Nat.reduceLeDiff, Nat.reduceLT]
          refine seq_go ?_
          simp only [go_sem, Nat.reduceEqDiff, reduceIte, Nat.reduceAdd, Nat.reduceMul, Nat.reduceLeDiff, Nat.reduceLT]
          have hj := posF_to rfl rfl (ih0 a0 (IntKind.i64.wrap (p0_0 + 1)) (IntKind.i64.wrap (p0_1 + 1)) _ h)
          refine lp_to hj (.one ⟨_, .done _, [], [], ?_⟩)
          clear hj
          simp only [go_sem, Nat.reduceEqDiff, reduceIte, Nat.reduceAdd, Nat.reduceMul, Nat.reduceLeDiff, Nat.reduceLT]
      · replace h := ifF (c := (decide (p0_1 < ((List.length a0 : Nat) : Int)))) hb1 h
        simp only [go_sem, Nat.reduceEqDiff, reduceIte, Nat.reduceAdd, Nat.reduceMul, Nat.reduceLeDiff, Nat.reduceLT]
        refine seq_go ?_
        simp only [go_sem, Nat.reduceEqDiff, reduceIte, Nat.reduceAdd, Nat.reduceMul, Nat.reduceLeDiff, Nat.reduceLT]
        obtain rfl := Option.some.inj h
        simp only [go_sem, Nat.reduceEqDiff, reduceIte, Nat.reduceAdd, Nat.reduceMul, Nat.reduceLeDiff, Nat.reduceLT]
theorem l_heldInt64S_l1_ok (n : Nat) : (∀ (a0 : List Int) (p0_0 : Int) (p0_1 : Int) (r : Int), l_heldInt64S_l1 n a0 p0_0 p0_1 = some r → posF Try.prog Try.f37 [1, 0, 1, 0] (.int .i64 r) ⟨[(0, .ro (List.map i64D a0)), (1, .int .i64 p0_0), (5, .int .i64 p0_1)], [], []⟩) := (l_heldInt64S_l1_all n)

theorem l_heldInt64S_ok (a0 : List Int) (a1 : Int) (r : Int) (h : l_heldInt64S a0 a1 = some r) : AC Try.prog 37 [.ro (List.map i64D a0), .int .i64 a1] (.int .i64 r) := by
  unfold l_heldInt64S at h
  refine ac_fn mixed Try.func37 rfl rfl rfl (by kernel_rfl) (by kernel_rfl) ?_
  simp only [go_sem, Nat.reduceEqDiff, reduceIte, Nat.reduceAdd, Nat.reduceMul, Nat.reduceLeDiff, Nat.reduceLT]
  have hj := posF_to rfl rfl (l_heldInt64S_l1_ok fuel a0 a1 0 _ h)
  refine loop_to hj (.one ⟨_, .done _, [], [], ?_⟩)
  clear hj
  simp only [go_sem, Nat.reduceEqDiff, reduceIte, Nat.reduceAdd, Nat.reduceMul, Nat.reduceLeDiff, Nat.reduceLT]
theorem l_heldPortS_l1_all (n : Nat) : (∀ (a0 : List Port) (p0_0 : Int) (p0_1 : Int) (r : Int), l_heldPortS_l1 n a0 p0_0 p0_1 = some r → posF Try.prog Try.f213 [1, 0, 1, 0] (.int .i64 r) ⟨[(0, .ro (List.map Port.ds a0)), (1, .int .i64 p0_0), (5, .int .i64 p0_1)], [], []⟩) := by
  induction n with
  | zero => exact ((fun _ _ _ _ h => by rw [l_heldPortS_l1] at h; cases h))
  | succ n ih =>
    have ih0 := ih
    · intro a0 p0_0 p0_1 r h
      rw [l_heldPortS_l1] at h
      refine posF_of rfl rfl ?_
      simp only [go_sem, Nat.reduceEqDiff, reduceIte, Nat.reduceAdd, Nat.reduceMul, Nat.reduceLeDiff, Nat.reduceLT]
      refine loop_i ?_
      simp only [go_sem, Nat.reduceEqDiff, reduceIte, Nat.reduceAdd, Nat.reduceMul, Nat.reduceLeDiff, Nat.reduceLT]
      refine cond_i (fun hb1 => ?_) (fun hb1 => ?_)
      · replace h := ifT (c := (decide (p0_1 < ((List.length a0 : Nat) : Int)))) hb1 h
        simp only [go_sem, Nat.reduceEqDiff, reduceIte, Nat.reduceAdd, Nat.reduceMul, Nat.reduceLeDiff, Nat.reduceLT]
        refine seq_go ?_
        simp only [go_sem, Nat.reduceEqDiff, reduceIte, Nat.reduceAdd, Nat.reduceMul, Nat.reduceLeDiff, Nat.reduceLT]
        obtain ⟨v5002, hv5002, h⟩ := bindE h
        refine idx_m hv5002 (Port.ds_len _) ?_
        simp only [go_sem, Nat.reduceEqDiff, reduceIte, Nat.reduceAdd, Nat.reduceMul, Nat.reduceLeDiff, Nat.reduceLT]
        refine cond_i (fun hb2 => ?_) (fun hb2 => ?_)
        · replace h := ifT (c := (!decide (v5002.agent = p0_0))) hb2 h
          simp only [go_sem, Nat.reduceEqDiff, reduceIte, Nat.reduceAdd, Nat.reduceMul, Nat.reduceLeDiff, Nat.reduceLT]
          obtain rfl := Option.some.inj h
          simp only [go_sem, Nat.reduceEqDiff, reduceIte, Nat.reduceAdd, Nat.reduceMul, Nat.reduceLeDiff, Nat.reduceLT]
        · replace h := ifF (c := (!decide (v5002.agent = p0_0))) hb2 h
          simp only [go_sem, Nat.reduceEqDiff, reduceIte, Nat.reduceAdd, Nat.reduceMul, Nat.reduceLeDiff, Nat.reduceLT]
          refine seq_go ?_
          simp only [go_sem, Nat.reduceEqDiff, reduceIte, Nat.reduceAdd, Nat.reduceMul, Nat.reduceLeDiff, Nat.reduceLT]
          obtain ⟨v8002, hv8002, h⟩ := bindE h
          refine idx_m hv8002 (Port.ds_len _) ?_
          simp only [go_sem, Nat.reduceEqDiff, reduceIte, Nat.reduceAdd, Nat.reduceMul, Nat.reduceLeDiff, Nat.reduceLT]
          refine cond_i (fun hb3 => ?_) (fun hb3 => ?_)
          · replace h := ifT (c := (!decide (v8002.slot = (IntKind.i64.wrap (p0_0 + 1))))) hb3 h
            simp only [go_sem, Nat.reduceEqDiff, reduceIte, Nat.reduceAdd, Nat.reduceMul, Nat.reduceLeDiff, Nat.reduceLT]
            obtain rfl := Option.some.inj h
            simp only [go_sem, Nat.reduceEqDiff, reduceIte, Nat.reduceAdd, Nat.reduceMul, Nat.reduceLeDiff, Nat.reduceLT]
          · replace h := ifF (c := (!decide (v8002.slot = (IntKind.i64.wrap (p0_0 + 1))))) hb3 h
            simp only [go_sem, Nat.reduceEqDiff, reduceIte, Nat.reduceAdd, Nat.reduceMul, Nat.reduceLeDiff, Nat.reduceLT]
            refine seq_go ?_
            simp only [go_sem, Nat.reduceEqDiff, reduceIte, Nat.reduceAdd, Nat.reduceMul, Nat.reduceLeDiff, Nat.reduceLT]
            refine seq_go ?_
            simp only [go_sem, Nat.reduceEqDiff, reduceIte, Nat.reduceAdd, Nat.reduceMul, Nat.reduceLeDiff, Nat.reduceLT]
            have hj := posF_to rfl rfl (ih0 a0 (IntKind.i64.wrap ((IntKind.i64.wrap (p0_0 + 1)) + 1)) (IntKind.i64.wrap (p0_1 + 1)) _ h)
            refine lp_to hj (.one ⟨_, .done _, [], [], ?_⟩)
            clear hj
            simp only [go_sem, Nat.reduceEqDiff, reduceIte, Nat.reduceAdd, Nat.reduceMul, Nat.reduceLeDiff, Nat.reduceLT]
      · replace h := ifF (c := (decide (p0_1 < ((List.length a0 : Nat) : Int)))) hb1 h
        simp only [go_sem, Nat.reduceEqDiff, reduceIte, Nat.reduceAdd, Nat.reduceMul, Nat.reduceLeDiff, Nat.reduceLT]
        refine seq_go ?_
        simp only [go_sem, Nat.reduceEqDiff, reduceIte, Nat.reduceAdd, Nat.reduceMul, Nat.reduceLeDiff, Nat.reduceLT]
        obtain rfl := Option.some.inj h
        simp only [go_sem, Nat.reduceEqDiff, reduceIte, Nat.reduceAdd, Nat.reduceMul, Nat.reduceLeDiff, Nat.reduceLT]
theorem l_heldPortS_l1_ok (n : Nat) : (∀ (a0 : List Port) (p0_0 : Int) (p0_1 : Int) (r : Int), l_heldPortS_l1 n a0 p0_0 p0_1 = some r → posF Try.prog Try.f213 [1, 0, 1, 0] (.int .i64 r) ⟨[(0, .ro (List.map Port.ds a0)), (1, .int .i64 p0_0), (5, .int .i64 p0_1)], [], []⟩) := (l_heldPortS_l1_all n)

theorem l_heldPortS_ok (a0 : List Port) (a1 : Int) (r : Int) (h : l_heldPortS a0 a1 = some r) : AC Try.prog 213 [.ro (List.map Port.ds a0), .int .i64 a1] (.int .i64 r) := by
  unfold l_heldPortS at h
  refine ac_fn mixed Try.func213 rfl rfl rfl (by kernel_rfl) (by kernel_rfl) ?_
  simp only [go_sem, Nat.reduceEqDiff, reduceIte, Nat.reduceAdd, Nat.reduceMul, Nat.reduceLeDiff, Nat.reduceLT]
  have hj := posF_to rfl rfl (l_heldPortS_l1_ok fuel a0 a1 0 _ h)
  refine loop_to hj (.one ⟨_, .done _, [], [], ?_⟩)
  clear hj
  simp only [go_sem, Nat.reduceEqDiff, reduceIte, Nat.reduceAdd, Nat.reduceMul, Nat.reduceLeDiff, Nat.reduceLT]
theorem l_heldAgentS_l1_all (n : Nat) : (∀ (a0 : List Agent) (p0_0 : Int) (p0_1 : Int) (r : Int), l_heldAgentS_l1 n a0 p0_0 p0_1 = some r → posF Try.prog Try.f137 [1, 0, 1, 0] (.int .i64 r) ⟨[(0, .ro (List.map Agent.ds a0)), (1, .int .i64 p0_0), (5, .int .i64 p0_1)], [], []⟩) := by
  induction n with
  | zero => exact ((fun _ _ _ _ h => by rw [l_heldAgentS_l1] at h; cases h))
  | succ n ih =>
    have ih0 := ih
    · intro a0 p0_0 p0_1 r h
      rw [l_heldAgentS_l1] at h
      refine posF_of rfl rfl ?_
      simp only [go_sem, Nat.reduceEqDiff, reduceIte, Nat.reduceAdd, Nat.reduceMul, Nat.reduceLeDiff, Nat.reduceLT]
      refine loop_i ?_
      simp only [go_sem, Nat.reduceEqDiff, reduceIte, Nat.reduceAdd, Nat.reduceMul, Nat.reduceLeDiff, Nat.reduceLT]
      refine cond_i (fun hb1 => ?_) (fun hb1 => ?_)
      · replace h := ifT (c := (decide (p0_1 < ((List.length a0 : Nat) : Int)))) hb1 h
        simp only [go_sem, Nat.reduceEqDiff, reduceIte, Nat.reduceAdd, Nat.reduceMul, Nat.reduceLeDiff, Nat.reduceLT]
        refine seq_go ?_
        simp only [go_sem, Nat.reduceEqDiff, reduceIte, Nat.reduceAdd, Nat.reduceMul, Nat.reduceLeDiff, Nat.reduceLT]
        obtain ⟨v5002, hv5002, h⟩ := bindE h
        refine idx_m hv5002 (Agent.ds_len _) ?_
        simp only [go_sem, Nat.reduceEqDiff, reduceIte, Nat.reduceAdd, Nat.reduceMul, Nat.reduceLeDiff, Nat.reduceLT]
        refine cond_i (fun hb2 => ?_) (fun hb2 => ?_)
        · replace h := ifT (c := (!decide (v5002.kind = p0_0))) hb2 h
          simp only [go_sem, Nat.reduceEqDiff, reduceIte, Nat.reduceAdd, Nat.reduceMul, Nat.reduceLeDiff, Nat.reduceLT]
          obtain rfl := Option.some.inj h
          simp only [go_sem, Nat.reduceEqDiff, reduceIte, Nat.reduceAdd, Nat.reduceMul, Nat.reduceLeDiff, Nat.reduceLT]
        · replace h := ifF (c := (!decide (v5002.kind = p0_0))) hb2 h
          simp only [go_sem, Nat.reduceEqDiff, reduceIte, Nat.reduceAdd, Nat.reduceMul, Nat.reduceLeDiff, Nat.reduceLT]
          refine seq_go ?_
          simp only [go_sem, Nat.reduceEqDiff, reduceIte, Nat.reduceAdd, Nat.reduceMul, Nat.reduceLeDiff, Nat.reduceLT]
          obtain ⟨v8002, hv8002, h⟩ := bindE h
          refine idx_m hv8002 (Agent.ds_len _) ?_
          simp only [go_sem, Nat.reduceEqDiff, reduceIte, Nat.reduceAdd, Nat.reduceMul, Nat.reduceLeDiff, Nat.reduceLT]
          refine cond_i (fun hb3 => ?_) (fun hb3 => ?_)
          · replace h := ifT (c := (!decide (v8002.level = (IntKind.i64.wrap (p0_0 + 1))))) hb3 h
            simp only [go_sem, Nat.reduceEqDiff, reduceIte, Nat.reduceAdd, Nat.reduceMul, Nat.reduceLeDiff, Nat.reduceLT]
            obtain rfl := Option.some.inj h
            simp only [go_sem, Nat.reduceEqDiff, reduceIte, Nat.reduceAdd, Nat.reduceMul, Nat.reduceLeDiff, Nat.reduceLT]
          · replace h := ifF (c := (!decide (v8002.level = (IntKind.i64.wrap (p0_0 + 1))))) hb3 h
            simp only [go_sem, Nat.reduceEqDiff, reduceIte, Nat.reduceAdd, Nat.reduceMul, Nat.reduceLeDiff, Nat.reduceLT]
            refine seq_go ?_
            simp only [go_sem, Nat.reduceEqDiff, reduceIte, Nat.reduceAdd, Nat.reduceMul, Nat.reduceLeDiff, Nat.reduceLT]
            obtain ⟨v11002, hv11002, h⟩ := bindE h
            refine idx_m hv11002 (Agent.ds_len _) ?_
            simp only [go_sem, Nat.reduceEqDiff, reduceIte, Nat.reduceAdd, Nat.reduceMul, Nat.reduceLeDiff, Nat.reduceLT]
            refine cond_i (fun hb4 => ?_) (fun hb4 => ?_)
            · replace h := ifT (c := (!decide (v11002.value = (IntKind.i64.wrap ((IntKind.i64.wrap (p0_0 + 1)) + 1))))) hb4 h
              simp only [go_sem, Nat.reduceEqDiff, reduceIte, Nat.reduceAdd, Nat.reduceMul, Nat.reduceLeDiff, Nat.reduceLT]
              obtain rfl := Option.some.inj h
              simp only [go_sem, Nat.reduceEqDiff, reduceIte, Nat.reduceAdd, Nat.reduceMul, Nat.reduceLeDiff, Nat.reduceLT]
            · replace h := ifF (c := (!decide (v11002.value = (IntKind.i64.wrap ((IntKind.i64.wrap (p0_0 + 1)) + 1))))) hb4 h
              simp only [go_sem, Nat.reduceEqDiff, reduceIte, Nat.reduceAdd, Nat.reduceMul, Nat.reduceLeDiff, Nat.reduceLT]
              refine seq_go ?_
              simp only [go_sem, Nat.reduceEqDiff, reduceIte, Nat.reduceAdd, Nat.reduceMul, Nat.reduceLeDiff, Nat.reduceLT]
              obtain ⟨v14002, hv14002, h⟩ := bindE h
              refine idx_m hv14002 (Agent.ds_len _) ?_
              simp only [go_sem, Nat.reduceEqDiff, reduceIte, Nat.reduceAdd, Nat.reduceMul, Nat.reduceLeDiff, Nat.reduceLT]
              obtain ⟨v14006, hv14006, h⟩ := bindE h
              refine call_i (l_heldInt64S_ok _ _ _ hv14006) ?_
              simp only [go_sem, Nat.reduceEqDiff, reduceIte, Nat.reduceAdd, Nat.reduceMul, Nat.reduceLeDiff, Nat.reduceLT]
              refine cond_i (fun hb5 => ?_) (fun hb5 => ?_)
              · replace h := ifT (c := (decide (v14006 < 0))) hb5 h
                simp only [go_sem, Nat.reduceEqDiff, reduceIte, Nat.reduceAdd, Nat.reduceMul, Nat.reduceLeDiff, Nat.reduceLT]
                obtain rfl := Option.some.inj h
                simp only [go_sem, Nat.reduceEqDiff, reduceIte, Nat.reduceAdd, Nat.reduceMul, Nat.reduceLeDiff, Nat.reduceLT]
              · replace h := ifF (c := (decide (v14006 < 0))) hb5 h
                simp only [go_sem, Nat.reduceEqDiff, reduceIte, Nat.reduceAdd, Nat.reduceMul, Nat.reduceLeDiff, Nat.reduceLT]
                refine seq_go ?_
                simp only [go_sem, Nat.reduceEqDiff, reduceIte, Nat.reduceAdd, Nat.reduceMul, Nat.reduceLeDiff, Nat.reduceLT]
                obtain ⟨v17002, hv17002, h⟩ := bindE h
                refine idx_m hv17002 (Agent.ds_len _) ?_
                simp only [go_sem, Nat.reduceEqDiff, reduceIte, Nat.reduceAdd, Nat.reduceMul, Nat.reduceLeDiff, Nat.reduceLT]
                obtain ⟨v17006, hv17006, h⟩ := bindE h
                refine call_i (l_heldPortS_ok _ _ _ hv17006) ?_
                simp only [go_sem, Nat.reduceEqDiff, reduceIte, Nat.reduceAdd, Nat.reduceMul, Nat.reduceLeDiff, Nat.reduceLT]
                refine cond_i (fun hb6 => ?_) (fun hb6 => ?_)
                · replace h := ifT (c := (decide (v17006 < 0))) hb6 h
                  simp only [go_sem, Nat.reduceEqDiff, reduceIte, Nat.reduceAdd, Nat.reduceMul, Nat.reduceLeDiff, Nat.reduceLT]
                  obtain rfl := Option.some.inj h
                  simp only [go_sem, Nat.reduceEqDiff, reduceIte, Nat.reduceAdd, Nat.reduceMul, Nat.reduceLeDiff, Nat.reduceLT]
                · replace h := ifF (c := (decide (v17006 < 0))) hb6 h
                  simp only [go_sem, Nat.reduceEqDiff, reduceIte, Nat.reduceAdd, Nat.reduceMul, Nat.reduceLeDiff, Nat.reduceLT]
                  refine seq_go ?_
                  simp only [go_sem, Nat.reduceEqDiff, reduceIte, Nat.reduceAdd, Nat.reduceMul, Nat.reduceLeDiff, Nat.reduceLT]
                  have hj := posF_to rfl rfl (ih0 a0 v17006 (IntKind.i64.wrap (p0_1 + 1)) _ h)
                  refine lp_to hj (.one ⟨_, .done _, [], [], ?_⟩)
                  clear hj
                  simp only [go_sem, Nat.reduceEqDiff, reduceIte, Nat.reduceAdd, Nat.reduceMul, Nat.reduceLeDiff, Nat.reduceLT]
      · replace h := ifF (c := (decide (p0_1 < ((List.length a0 : Nat) : Int)))) hb1 h
        simp only [go_sem, Nat.reduceEqDiff, reduceIte, Nat.reduceAdd, Nat.reduceMul, Nat.reduceLeDiff, Nat.reduceLT]
        refine seq_go ?_
        simp only [go_sem, Nat.reduceEqDiff, reduceIte, Nat.reduceAdd, Nat.reduceMul, Nat.reduceLeDiff, Nat.reduceLT]
        obtain rfl := Option.some.inj h
        simp only [go_sem, Nat.reduceEqDiff, reduceIte, Nat.reduceAdd, Nat.reduceMul, Nat.reduceLeDiff, Nat.reduceLT]
theorem l_heldAgentS_l1_ok (n : Nat) : (∀ (a0 : List Agent) (p0_0 : Int) (p0_1 : Int) (r : Int), l_heldAgentS_l1 n a0 p0_0 p0_1 = some r → posF Try.prog Try.f137 [1, 0, 1, 0] (.int .i64 r) ⟨[(0, .ro (List.map Agent.ds a0)), (1, .int .i64 p0_0), (5, .int .i64 p0_1)], [], []⟩) := (l_heldAgentS_l1_all n)

theorem l_heldAgentS_ok (a0 : List Agent) (a1 : Int) (r : Int) (h : l_heldAgentS a0 a1 = some r) : AC Try.prog 137 [.ro (List.map Agent.ds a0), .int .i64 a1] (.int .i64 r) := by
  unfold l_heldAgentS at h
  refine ac_fn mixed Try.func137 rfl rfl rfl (by kernel_rfl) (by kernel_rfl) ?_
  simp only [go_sem, Nat.reduceEqDiff, reduceIte, Nat.reduceAdd, Nat.reduceMul, Nat.reduceLeDiff, Nat.reduceLT]
  have hj := posF_to rfl rfl (l_heldAgentS_l1_ok fuel a0 a1 0 _ h)
  refine loop_to hj (.one ⟨_, .done _, [], [], ?_⟩)
  clear hj
  simp only [go_sem, Nat.reduceEqDiff, reduceIte, Nat.reduceAdd, Nat.reduceMul, Nat.reduceLeDiff, Nat.reduceLT]
theorem l_heldNetS_l1_all (n : Nat) : (∀ (a0 : List Net) (p0_0 : Int) (p0_1 : Int) (r : Int), l_heldNetS_l1 n a0 p0_0 p0_1 = some r → posF Try.prog Try.f136 [1, 0, 1, 0] (.int .i64 r) ⟨[(0, .ro (List.map Net.ds a0)), (1, .int .i64 p0_0), (5, .int .i64 p0_1)], [], []⟩) := by
  induction n with
  | zero => exact ((fun _ _ _ _ h => by rw [l_heldNetS_l1] at h; cases h))
  | succ n ih =>
    have ih0 := ih
    · intro a0 p0_0 p0_1 r h
      rw [l_heldNetS_l1] at h
      refine posF_of rfl rfl ?_
      simp only [go_sem, Nat.reduceEqDiff, reduceIte, Nat.reduceAdd, Nat.reduceMul, Nat.reduceLeDiff, Nat.reduceLT]
      refine loop_i ?_
      simp only [go_sem, Nat.reduceEqDiff, reduceIte, Nat.reduceAdd, Nat.reduceMul, Nat.reduceLeDiff, Nat.reduceLT]
      refine cond_i (fun hb1 => ?_) (fun hb1 => ?_)
      · replace h := ifT (c := (decide (p0_1 < ((List.length a0 : Nat) : Int)))) hb1 h
        simp only [go_sem, Nat.reduceEqDiff, reduceIte, Nat.reduceAdd, Nat.reduceMul, Nat.reduceLeDiff, Nat.reduceLT]
        refine seq_go ?_
        simp only [go_sem, Nat.reduceEqDiff, reduceIte, Nat.reduceAdd, Nat.reduceMul, Nat.reduceLeDiff, Nat.reduceLT]
        obtain ⟨v5002, hv5002, h⟩ := bindE h
        refine idx_m hv5002 (Net.ds_len _) ?_
        simp only [go_sem, Nat.reduceEqDiff, reduceIte, Nat.reduceAdd, Nat.reduceMul, Nat.reduceLeDiff, Nat.reduceLT]
        obtain ⟨v5006, hv5006, h⟩ := bindE h
        refine call_i (l_heldAgentS_ok _ _ _ hv5006) ?_
        simp only [go_sem, Nat.reduceEqDiff, reduceIte, Nat.reduceAdd, Nat.reduceMul, Nat.reduceLeDiff, Nat.reduceLT]
        refine cond_i (fun hb2 => ?_) (fun hb2 => ?_)
        · replace h := ifT (c := (decide (v5006 < 0))) hb2 h
          simp only [go_sem, Nat.reduceEqDiff, reduceIte, Nat.reduceAdd, Nat.reduceMul, Nat.reduceLeDiff, Nat.reduceLT]
          obtain rfl := Option.some.inj h
          simp only [go_sem, Nat.reduceEqDiff, reduceIte, Nat.reduceAdd, Nat.reduceMul, Nat.reduceLeDiff, Nat.reduceLT]
        · replace h := ifF (c := (decide (v5006 < 0))) hb2 h
          simp only [go_sem, Nat.reduceEqDiff, reduceIte, Nat.reduceAdd, Nat.reduceMul, Nat.reduceLeDiff, Nat.reduceLT]
          refine seq_go ?_
          simp only [go_sem, Nat.reduceEqDiff, reduceIte, Nat.reduceAdd, Nat.reduceMul, Nat.reduceLeDiff, Nat.reduceLT]
          have hj := posF_to rfl rfl (ih0 a0 v5006 (IntKind.i64.wrap (p0_1 + 1)) _ h)
          refine lp_to hj (.one ⟨_, .done _, [], [], ?_⟩)
          clear hj
          simp only [go_sem, Nat.reduceEqDiff, reduceIte, Nat.reduceAdd, Nat.reduceMul, Nat.reduceLeDiff, Nat.reduceLT]
      · replace h := ifF (c := (decide (p0_1 < ((List.length a0 : Nat) : Int)))) hb1 h
        simp only [go_sem, Nat.reduceEqDiff, reduceIte, Nat.reduceAdd, Nat.reduceMul, Nat.reduceLeDiff, Nat.reduceLT]
        refine seq_go ?_
        simp only [go_sem, Nat.reduceEqDiff, reduceIte, Nat.reduceAdd, Nat.reduceMul, Nat.reduceLeDiff, Nat.reduceLT]
        obtain rfl := Option.some.inj h
        simp only [go_sem, Nat.reduceEqDiff, reduceIte, Nat.reduceAdd, Nat.reduceMul, Nat.reduceLeDiff, Nat.reduceLT]
theorem l_heldNetS_l1_ok (n : Nat) : (∀ (a0 : List Net) (p0_0 : Int) (p0_1 : Int) (r : Int), l_heldNetS_l1 n a0 p0_0 p0_1 = some r → posF Try.prog Try.f136 [1, 0, 1, 0] (.int .i64 r) ⟨[(0, .ro (List.map Net.ds a0)), (1, .int .i64 p0_0), (5, .int .i64 p0_1)], [], []⟩) := (l_heldNetS_l1_all n)

theorem l_heldNetS_ok (a0 : List Net) (a1 : Int) (r : Int) (h : l_heldNetS a0 a1 = some r) : AC Try.prog 136 [.ro (List.map Net.ds a0), .int .i64 a1] (.int .i64 r) := by
  unfold l_heldNetS at h
  refine ac_fn mixed Try.func136 rfl rfl rfl (by kernel_rfl) (by kernel_rfl) ?_
  simp only [go_sem, Nat.reduceEqDiff, reduceIte, Nat.reduceAdd, Nat.reduceMul, Nat.reduceLeDiff, Nat.reduceLT]
  have hj := posF_to rfl rfl (l_heldNetS_l1_ok fuel a0 a1 0 _ h)
  refine loop_to hj (.one ⟨_, .done _, [], [], ?_⟩)
  clear hj
  simp only [go_sem, Nat.reduceEqDiff, reduceIte, Nat.reduceAdd, Nat.reduceMul, Nat.reduceLeDiff, Nat.reduceLT]
theorem l_heldJobS_l1_all (n : Nat) : (∀ (a0 : List Job) (p0_0 : Int) (p0_1 : Int) (r : Int), l_heldJobS_l1 n a0 p0_0 p0_1 = some r → posF Try.prog Try.f69 [1, 0, 1, 0] (.int .i64 r) ⟨[(0, .ro (List.map Job.ds a0)), (1, .int .i64 p0_0), (5, .int .i64 p0_1)], [], []⟩) := by
  induction n with
  | zero => exact ((fun _ _ _ _ h => by rw [l_heldJobS_l1] at h; cases h))
  | succ n ih =>
    have ih0 := ih
    · intro a0 p0_0 p0_1 r h
      rw [l_heldJobS_l1] at h
      refine posF_of rfl rfl ?_
      simp only [go_sem, Nat.reduceEqDiff, reduceIte, Nat.reduceAdd, Nat.reduceMul, Nat.reduceLeDiff, Nat.reduceLT]
      refine loop_i ?_
      simp only [go_sem, Nat.reduceEqDiff, reduceIte, Nat.reduceAdd, Nat.reduceMul, Nat.reduceLeDiff, Nat.reduceLT]
      refine cond_i (fun hb1 => ?_) (fun hb1 => ?_)
      · replace h := ifT (c := (decide (p0_1 < ((List.length a0 : Nat) : Int)))) hb1 h
        simp only [go_sem, Nat.reduceEqDiff, reduceIte, Nat.reduceAdd, Nat.reduceMul, Nat.reduceLeDiff, Nat.reduceLT]
        refine seq_go ?_
        simp only [go_sem, Nat.reduceEqDiff, reduceIte, Nat.reduceAdd, Nat.reduceMul, Nat.reduceLeDiff, Nat.reduceLT]
        obtain ⟨v5002, hv5002, h⟩ := bindE h
        refine idx_m hv5002 (Job.ds_len _) ?_
        simp only [go_sem, Nat.reduceEqDiff, reduceIte, Nat.reduceAdd, Nat.reduceMul, Nat.reduceLeDiff, Nat.reduceLT]
        refine cond_i (fun hb2 => ?_) (fun hb2 => ?_)
        · replace h := ifT (c := (!decide (v5002.id = p0_0))) hb2 h
          simp only [go_sem, Nat.reduceEqDiff, reduceIte, Nat.reduceAdd, Nat.reduceMul, Nat.reduceLeDiff, Nat.reduceLT]
          obtain rfl := Option.some.inj h
          simp only [go_sem, Nat.reduceEqDiff, reduceIte, Nat.reduceAdd, Nat.reduceMul, Nat.reduceLeDiff, Nat.reduceLT]
        · replace h := ifF (c := (!decide (v5002.id = p0_0))) hb2 h
          simp only [go_sem, Nat.reduceEqDiff, reduceIte, Nat.reduceAdd, Nat.reduceMul, Nat.reduceLeDiff, Nat.reduceLT]
          refine seq_go ?_
          simp only [go_sem, Nat.reduceEqDiff, reduceIte, Nat.reduceAdd, Nat.reduceMul, Nat.reduceLeDiff, Nat.reduceLT]
          obtain ⟨v8002, hv8002, h⟩ := bindE h
          refine idx_m hv8002 (Job.ds_len _) ?_
          simp only [go_sem, Nat.reduceEqDiff, reduceIte, Nat.reduceAdd, Nat.reduceMul, Nat.reduceLeDiff, Nat.reduceLT]
          refine cond_i (fun hb3 => ?_) (fun hb3 => ?_)
          · replace h := ifT (c := (!decide (v8002.weight = (IntKind.i64.wrap (p0_0 + 1))))) hb3 h
            simp only [go_sem, Nat.reduceEqDiff, reduceIte, Nat.reduceAdd, Nat.reduceMul, Nat.reduceLeDiff, Nat.reduceLT]
            obtain rfl := Option.some.inj h
            simp only [go_sem, Nat.reduceEqDiff, reduceIte, Nat.reduceAdd, Nat.reduceMul, Nat.reduceLeDiff, Nat.reduceLT]
          · replace h := ifF (c := (!decide (v8002.weight = (IntKind.i64.wrap (p0_0 + 1))))) hb3 h
            simp only [go_sem, Nat.reduceEqDiff, reduceIte, Nat.reduceAdd, Nat.reduceMul, Nat.reduceLeDiff, Nat.reduceLT]
            refine seq_go ?_
            simp only [go_sem, Nat.reduceEqDiff, reduceIte, Nat.reduceAdd, Nat.reduceMul, Nat.reduceLeDiff, Nat.reduceLT]
            obtain ⟨v11002, hv11002, h⟩ := bindE h
            refine idx_m hv11002 (Job.ds_len _) ?_
            simp only [go_sem, Nat.reduceEqDiff, reduceIte, Nat.reduceAdd, Nat.reduceMul, Nat.reduceLeDiff, Nat.reduceLT]
            refine cond_i (fun hb4 => ?_) (fun hb4 => ?_)
            · replace h := ifT (c := (!decide (v11002.state = (IntKind.i64.wrap ((IntKind.i64.wrap (p0_0 + 1)) + 1))))) hb4 h
              simp only [go_sem, Nat.reduceEqDiff, reduceIte, Nat.reduceAdd, Nat.reduceMul, Nat.reduceLeDiff, Nat.reduceLT]
              obtain rfl := Option.some.inj h
              simp only [go_sem, Nat.reduceEqDiff, reduceIte, Nat.reduceAdd, Nat.reduceMul, Nat.reduceLeDiff, Nat.reduceLT]
            · replace h := ifF (c := (!decide (v11002.state = (IntKind.i64.wrap ((IntKind.i64.wrap (p0_0 + 1)) + 1))))) hb4 h
              simp only [go_sem, Nat.reduceEqDiff, reduceIte, Nat.reduceAdd, Nat.reduceMul, Nat.reduceLeDiff, Nat.reduceLT]
              refine seq_go ?_
              simp only [go_sem, Nat.reduceEqDiff, reduceIte, Nat.reduceAdd, Nat.reduceMul, Nat.reduceLeDiff, Nat.reduceLT]
              obtain ⟨v14002, hv14002, h⟩ := bindE h
              refine idx_m hv14002 (Job.ds_len _) ?_
              simp only [go_sem, Nat.reduceEqDiff, reduceIte, Nat.reduceAdd, Nat.reduceMul, Nat.reduceLeDiff, Nat.reduceLT]
              refine cond_i (fun hb5 => ?_) (fun hb5 => ?_)
              · replace h := ifT (c := (!decide (v14002.code = (IntKind.i64.wrap ((IntKind.i64.wrap ((IntKind.i64.wrap (p0_0 + 1)) + 1)) + 1))))) hb5 h
                simp only [go_sem, Nat.reduceEqDiff, reduceIte, Nat.reduceAdd, Nat.reduceMul, Nat.reduceLeDiff, Nat.reduceLT]
                obtain rfl := Option.some.inj h
                simp only [go_sem, Nat.reduceEqDiff, reduceIte, Nat.reduceAdd, Nat.reduceMul, Nat.reduceLeDiff, Nat.reduceLT]
              · replace h := ifF (c := (!decide (v14002.code = (IntKind.i64.wrap ((IntKind.i64.wrap ((IntKind.i64.wrap (p0_0 + 1)) + 1)) + 1))))) hb5 h
                simp only [go_sem, Nat.reduceEqDiff, reduceIte, Nat.reduceAdd, Nat.reduceMul, Nat.reduceLeDiff, Nat.reduceLT]
                refine seq_go ?_
                simp only [go_sem, Nat.reduceEqDiff, reduceIte, Nat.reduceAdd, Nat.reduceMul, Nat.reduceLeDiff, Nat.reduceLT]
                obtain ⟨v17002, hv17002, h⟩ := bindE h
                refine idx_m hv17002 (Job.ds_len _) ?_
                simp only [go_sem, Nat.reduceEqDiff, reduceIte, Nat.reduceAdd, Nat.reduceMul, Nat.reduceLeDiff, Nat.reduceLT]
                refine cond_i (fun hb6 => ?_) (fun hb6 => ?_)
                · replace h := ifT (c := (!decide (v17002.left = (IntKind.i64.wrap ((IntKind.i64.wrap ((IntKind.i64.wrap ((IntKind.i64.wrap (p0_0 + 1)) + 1)) + 1)) + 1))))) hb6 h
                  simp only [go_sem, Nat.reduceEqDiff, reduceIte, Nat.reduceAdd, Nat.reduceMul, Nat.reduceLeDiff, Nat.reduceLT]
                  obtain rfl := Option.some.inj h
                  simp only [go_sem, Nat.reduceEqDiff, reduceIte, Nat.reduceAdd, Nat.reduceMul, Nat.reduceLeDiff, Nat.reduceLT]
                · replace h := ifF (c := (!decide (v17002.left = (IntKind.i64.wrap ((IntKind.i64.wrap ((IntKind.i64.wrap ((IntKind.i64.wrap (p0_0 + 1)) + 1)) + 1)) + 1))))) hb6 h
                  simp only [go_sem, Nat.reduceEqDiff, reduceIte, Nat.reduceAdd, Nat.reduceMul, Nat.reduceLeDiff, Nat.reduceLT]
                  refine seq_go ?_
                  simp only [go_sem, Nat.reduceEqDiff, reduceIte, Nat.reduceAdd, Nat.reduceMul, Nat.reduceLeDiff, Nat.reduceLT]
                  obtain ⟨v20002, hv20002, h⟩ := bindE h
                  refine idx_m hv20002 (Job.ds_len _) ?_
                  simp only [go_sem, Nat.reduceEqDiff, reduceIte, Nat.reduceAdd, Nat.reduceMul, Nat.reduceLeDiff, Nat.reduceLT]
                  refine cond_i (fun hb7 => ?_) (fun hb7 => ?_)
                  · replace h := ifT (c := (!decide (v20002.slices = (IntKind.i64.wrap ((IntKind.i64.wrap ((IntKind.i64.wrap ((IntKind.i64.wrap ((IntKind.i64.wrap (p0_0 + 1)) + 1)) + 1)) + 1)) + 1))))) hb7 h
                    simp only [go_sem, Nat.reduceEqDiff, reduceIte, Nat.reduceAdd, Nat.reduceMul, Nat.reduceLeDiff, Nat.reduceLT]
                    obtain rfl := Option.some.inj h
                    simp only [go_sem, Nat.reduceEqDiff, reduceIte, Nat.reduceAdd, Nat.reduceMul, Nat.reduceLeDiff, Nat.reduceLT]
                  · replace h := ifF (c := (!decide (v20002.slices = (IntKind.i64.wrap ((IntKind.i64.wrap ((IntKind.i64.wrap ((IntKind.i64.wrap ((IntKind.i64.wrap (p0_0 + 1)) + 1)) + 1)) + 1)) + 1))))) hb7 h
                    simp only [go_sem, Nat.reduceEqDiff, reduceIte, Nat.reduceAdd, Nat.reduceMul, Nat.reduceLeDiff, Nat.reduceLT]
                    refine seq_go ?_
                    simp only [go_sem, Nat.reduceEqDiff, reduceIte, Nat.reduceAdd, Nat.reduceMul, Nat.reduceLeDiff, Nat.reduceLT]
                    obtain ⟨v23002, hv23002, h⟩ := bindE h
                    refine idx_m hv23002 (Job.ds_len _) ?_
                    simp only [go_sem, Nat.reduceEqDiff, reduceIte, Nat.reduceAdd, Nat.reduceMul, Nat.reduceLeDiff, Nat.reduceLT]
                    obtain ⟨v23006, hv23006, h⟩ := bindE h
                    refine call_i (l_heldInt64S_ok _ _ _ hv23006) ?_
                    simp only [go_sem, Nat.reduceEqDiff, reduceIte, Nat.reduceAdd, Nat.reduceMul, Nat.reduceLeDiff, Nat.reduceLT]
                    refine cond_i (fun hb8 => ?_) (fun hb8 => ?_)
                    · replace h := ifT (c := (decide (v23006 < 0))) hb8 h
                      simp only [go_sem, Nat.reduceEqDiff, reduceIte, Nat.reduceAdd, Nat.reduceMul, Nat.reduceLeDiff, Nat.reduceLT]
                      obtain rfl := Option.some.inj h
                      simp only [go_sem, Nat.reduceEqDiff, reduceIte, Nat.reduceAdd, Nat.reduceMul, Nat.reduceLeDiff, Nat.reduceLT]
                    · replace h := ifF (c := (decide (v23006 < 0))) hb8 h
                      simp only [go_sem, Nat.reduceEqDiff, reduceIte, Nat.reduceAdd, Nat.reduceMul, Nat.reduceLeDiff, Nat.reduceLT]
                      refine seq_go ?_
                      simp only [go_sem, Nat.reduceEqDiff, reduceIte, Nat.reduceAdd, Nat.reduceMul, Nat.reduceLeDiff, Nat.reduceLT]
                      obtain ⟨v26002, hv26002, h⟩ := bindE h
                      refine idx_m hv26002 (Job.ds_len _) ?_
                      simp only [go_sem, Nat.reduceEqDiff, reduceIte, Nat.reduceAdd, Nat.reduceMul, Nat.reduceLeDiff, Nat.reduceLT]
                      obtain ⟨v26006, hv26006, h⟩ := bindE h
                      refine call_i (l_heldInt64S_ok _ _ _ hv26006) ?_
                      simp only [go_sem, Nat.reduceEqDiff, reduceIte, Nat.reduceAdd, Nat.reduceMul, Nat.reduceLeDiff, Nat.reduceLT]
                      refine cond_i (fun hb9 => ?_) (fun hb9 => ?_)
                      · replace h := ifT (c := (decide (v26006 < 0))) hb9 h
                        simp only [go_sem, Nat.reduceEqDiff, reduceIte, Nat.reduceAdd, Nat.reduceMul, Nat.reduceLeDiff, Nat.reduceLT]
                        obtain rfl := Option.some.inj h
                        simp only [go_sem, Nat.reduceEqDiff, reduceIte, Nat.reduceAdd, Nat.reduceMul, Nat.reduceLeDiff, Nat.reduceLT]
                      · replace h := ifF (c := (decide (v26006 < 0))) hb9 h
                        simp only [go_sem, Nat.reduceEqDiff, reduceIte, Nat.reduceAdd, Nat.reduceMul, Nat.reduceLeDiff, Nat.reduceLT]
                        refine seq_go ?_
                        simp only [go_sem, Nat.reduceEqDiff, reduceIte, Nat.reduceAdd, Nat.reduceMul, Nat.reduceLeDiff, Nat.reduceLT]
                        obtain ⟨v29002, hv29002, h⟩ := bindE h
                        refine idx_m hv29002 (Job.ds_len _) ?_
                        simp only [go_sem, Nat.reduceEqDiff, reduceIte, Nat.reduceAdd, Nat.reduceMul, Nat.reduceLeDiff, Nat.reduceLT]
                        obtain ⟨v29006, hv29006, h⟩ := bindE h
                        refine call_i (l_heldNetS_ok _ _ _ hv29006) ?_
                        simp only [go_sem, Nat.reduceEqDiff, reduceIte, Nat.reduceAdd, Nat.reduceMul, Nat.reduceLeDiff, Nat.reduceLT]
                        refine cond_i (fun hb10 => ?_) (fun hb10 => ?_)
                        · replace h := ifT (c := (decide (v29006 < 0))) hb10 h
                          simp only [go_sem, Nat.reduceEqDiff, reduceIte, Nat.reduceAdd, Nat.reduceMul, Nat.reduceLeDiff, Nat.reduceLT]
                          obtain rfl := Option.some.inj h
                          simp only [go_sem, Nat.reduceEqDiff, reduceIte, Nat.reduceAdd, Nat.reduceMul, Nat.reduceLeDiff, Nat.reduceLT]
                        · replace h := ifF (c := (decide (v29006 < 0))) hb10 h
                          simp only [go_sem, Nat.reduceEqDiff, reduceIte, Nat.reduceAdd, Nat.reduceMul, Nat.reduceLeDiff, Nat.reduceLT]
                          refine seq_go ?_
                          simp only [go_sem, Nat.reduceEqDiff, reduceIte, Nat.reduceAdd, Nat.reduceMul, Nat.reduceLeDiff, Nat.reduceLT]
                          obtain ⟨v32002, hv32002, h⟩ := bindE h
                          refine idx_m hv32002 (Job.ds_len _) ?_
                          simp only [go_sem, Nat.reduceEqDiff, reduceIte, Nat.reduceAdd, Nat.reduceMul, Nat.reduceLeDiff, Nat.reduceLT]
                          obtain ⟨v32007, hv32007, h⟩ := bindE h
                          refine call_i (l_heldAgentS_ok _ _ _ hv32007) ?_
                          simp only [go_sem, Nat.reduceEqDiff, reduceIte, Nat.reduceAdd, Nat.reduceMul, Nat.reduceLeDiff, Nat.reduceLT]
                          refine cond_i (fun hb11 => ?_) (fun hb11 => ?_)
                          · replace h := ifT (c := (decide (v32007 < 0))) hb11 h
                            simp only [go_sem, Nat.reduceEqDiff, reduceIte, Nat.reduceAdd, Nat.reduceMul, Nat.reduceLeDiff, Nat.reduceLT]
                            obtain rfl := Option.some.inj h
                            simp only [go_sem, Nat.reduceEqDiff, reduceIte, Nat.reduceAdd, Nat.reduceMul, Nat.reduceLeDiff, Nat.reduceLT]
                          · replace h := ifF (c := (decide (v32007 < 0))) hb11 h
                            simp only [go_sem, Nat.reduceEqDiff, reduceIte, Nat.reduceAdd, Nat.reduceMul, Nat.reduceLeDiff, Nat.reduceLT]
                            refine seq_go ?_
                            simp only [go_sem, Nat.reduceEqDiff, reduceIte, Nat.reduceAdd, Nat.reduceMul, Nat.reduceLeDiff, Nat.reduceLT]
                            have hj := posF_to rfl rfl (ih0 a0 v32007 (IntKind.i64.wrap (p0_1 + 1)) _ h)
                            refine lp_to hj (.one ⟨_, .done _, [], [], ?_⟩)
                            clear hj
                            simp only [go_sem, Nat.reduceEqDiff, reduceIte, Nat.reduceAdd, Nat.reduceMul, Nat.reduceLeDiff, Nat.reduceLT]
      · replace h := ifF (c := (decide (p0_1 < ((List.length a0 : Nat) : Int)))) hb1 h
        simp only [go_sem, Nat.reduceEqDiff, reduceIte, Nat.reduceAdd, Nat.reduceMul, Nat.reduceLeDiff, Nat.reduceLT]
        refine seq_go ?_
        simp only [go_sem, Nat.reduceEqDiff, reduceIte, Nat.reduceAdd, Nat.reduceMul, Nat.reduceLeDiff, Nat.reduceLT]
        obtain rfl := Option.some.inj h
        simp only [go_sem, Nat.reduceEqDiff, reduceIte, Nat.reduceAdd, Nat.reduceMul, Nat.reduceLeDiff, Nat.reduceLT]
theorem l_heldJobS_l1_ok (n : Nat) : (∀ (a0 : List Job) (p0_0 : Int) (p0_1 : Int) (r : Int), l_heldJobS_l1 n a0 p0_0 p0_1 = some r → posF Try.prog Try.f69 [1, 0, 1, 0] (.int .i64 r) ⟨[(0, .ro (List.map Job.ds a0)), (1, .int .i64 p0_0), (5, .int .i64 p0_1)], [], []⟩) := (l_heldJobS_l1_all n)

theorem l_heldJobS_ok (a0 : List Job) (a1 : Int) (r : Int) (h : l_heldJobS a0 a1 = some r) : AC Try.prog 69 [.ro (List.map Job.ds a0), .int .i64 a1] (.int .i64 r) := by
  unfold l_heldJobS at h
  refine ac_fn mixed Try.func69 rfl rfl rfl (by kernel_rfl) (by kernel_rfl) ?_
  simp only [go_sem, Nat.reduceEqDiff, reduceIte, Nat.reduceAdd, Nat.reduceMul, Nat.reduceLeDiff, Nat.reduceLT]
  have hj := posF_to rfl rfl (l_heldJobS_l1_ok fuel a0 a1 0 _ h)
  refine loop_to hj (.one ⟨_, .done _, [], [], ?_⟩)
  clear hj
  simp only [go_sem, Nat.reduceEqDiff, reduceIte, Nat.reduceAdd, Nat.reduceMul, Nat.reduceLeDiff, Nat.reduceLT]
theorem l_heldQueue_ok (a0 : Queue) (a1 : Int) (r : Int) (h : l_heldQueue a0 a1 = some r) : AC Try.prog 18 [.agg (Queue.avs a0), .int .i64 a1] (.int .i64 r) := by
  unfold l_heldQueue at h
  refine ac_fn mixed Try.func18 rfl rfl rfl (by kernel_rfl) (by kernel_rfl) ?_
  simp only [go_sem, Nat.reduceEqDiff, reduceIte, Nat.reduceAdd, Nat.reduceMul, Nat.reduceLeDiff, Nat.reduceLT]
  obtain ⟨v2003, hv2003, h⟩ := bindE h
  refine call_i (l_heldJobS_ok _ _ _ hv2003) ?_
  simp only [go_sem, Nat.reduceEqDiff, reduceIte, Nat.reduceAdd, Nat.reduceMul, Nat.reduceLeDiff, Nat.reduceLT]
  refine cond_i (fun hb1 => ?_) (fun hb1 => ?_)
  · replace h := ifT (c := (decide (v2003 < 0))) hb1 h
    simp only [go_sem, Nat.reduceEqDiff, reduceIte, Nat.reduceAdd, Nat.reduceMul, Nat.reduceLeDiff, Nat.reduceLT]
    obtain rfl := Option.some.inj h
    simp only [go_sem, Nat.reduceEqDiff, reduceIte, Nat.reduceAdd, Nat.reduceMul, Nat.reduceLeDiff, Nat.reduceLT]
  · replace h := ifF (c := (decide (v2003 < 0))) hb1 h
    simp only [go_sem, Nat.reduceEqDiff, reduceIte, Nat.reduceAdd, Nat.reduceMul, Nat.reduceLeDiff, Nat.reduceLT]
    refine seq_go ?_
    simp only [go_sem, Nat.reduceEqDiff, reduceIte, Nat.reduceAdd, Nat.reduceMul, Nat.reduceLeDiff, Nat.reduceLT]
    obtain rfl := Option.some.inj h
    simp only [go_sem, Nat.reduceEqDiff, reduceIte, Nat.reduceAdd, Nat.reduceMul, Nat.reduceLeDiff, Nat.reduceLT]
theorem l_FnExactNewQueue_j2_ok (v3001 : Queue × Int) (v7002 : Int × (List Job)) (p1_0 : Bool) (r : Bool) (h : l_FnExactNewQueue_j2 v3001 v7002 p1_0 = some r) : posF Try.prog Try.f3 [1, 1, 1, 1, 1, 1, 1, 1, 1, 1, 1, 0, 1] (.bool r) ⟨[(5, .box 1000001500 0), (7, .int .i64 v7002.1), (54, .bool p1_0)], [(1000001000, some ⟨List.map Job.ds v7002.2, some 10, 0⟩)], [(1000001500, some [.int .i64 v3001.1.quantum, .int .i64 v3001.1.nextId, .int .i64 v3001.1.turn, .own 1000001000])]⟩ := by
  unfold l_FnExactNewQueue_j2 at h
  refine posF_of rfl rfl ?_
  simp only [go_sem, Nat.reduceEqDiff, reduceIte, Nat.reduceAdd, Nat.reduceMul, Nat.reduceLeDiff, Nat.reduceLT]
  refine cond_i (fun hb6 => ?_) (fun hb6 => ?_)
  · replace h := ifT (c := p1_0) hb6 h
    simp only [go_sem, Nat.reduceEqDiff, reduceIte, Nat.reduceAdd, Nat.reduceMul, Nat.reduceLeDiff, Nat.reduceLT]
    obtain rfl := Option.some.inj h
    simp only [go_sem, Nat.reduceEqDiff, reduceIte, Nat.reduceAdd, Nat.reduceMul, Nat.reduceLeDiff, Nat.reduceLT]
  · replace h := ifF (c := p1_0) hb6 h
    simp only [go_sem, Nat.reduceEqDiff, reduceIte, Nat.reduceAdd, Nat.reduceMul, Nat.reduceLeDiff, Nat.reduceLT]
    refine seq_go ?_
    simp only [go_sem, Nat.reduceEqDiff, reduceIte, Nat.reduceAdd, Nat.reduceMul, Nat.reduceLeDiff, Nat.reduceLT]
    obtain ⟨v18002, hv18002, h⟩ := bindE h
    refine call_i (l_heldQueue_ok _ _ _ hv18002) ?_
    simp only [go_sem, Nat.reduceEqDiff, reduceIte, Nat.reduceAdd, Nat.reduceMul, Nat.reduceLeDiff, Nat.reduceLT]
    refine cond_i (fun hb7 => ?_) (fun hb7 => ?_)
    · replace h := ifT (c := (decide (v18002 < 0))) hb7 h
      simp only [go_sem, Nat.reduceEqDiff, reduceIte, Nat.reduceAdd, Nat.reduceMul, Nat.reduceLeDiff, Nat.reduceLT]
      obtain rfl := Option.some.inj h
      simp only [go_sem, Nat.reduceEqDiff, reduceIte, Nat.reduceAdd, Nat.reduceMul, Nat.reduceLeDiff, Nat.reduceLT]
    · replace h := ifF (c := (decide (v18002 < 0))) hb7 h
      simp only [go_sem, Nat.reduceEqDiff, reduceIte, Nat.reduceAdd, Nat.reduceMul, Nat.reduceLeDiff, Nat.reduceLT]
      refine seq_go ?_
      simp only [go_sem, Nat.reduceEqDiff, reduceIte, Nat.reduceAdd, Nat.reduceMul, Nat.reduceLeDiff, Nat.reduceLT]
      refine cond_i (fun hb8 => ?_) (fun hb8 => ?_)
      · replace h := ifT (c := (!decide (v18002 = v7002.1))) hb8 h
        simp only [go_sem, Nat.reduceEqDiff, reduceIte, Nat.reduceAdd, Nat.reduceMul, Nat.reduceLeDiff, Nat.reduceLT]
        obtain rfl := Option.some.inj h
        simp only [go_sem, Nat.reduceEqDiff, reduceIte, Nat.reduceAdd, Nat.reduceMul, Nat.reduceLeDiff, Nat.reduceLT]
      · replace h := ifF (c := (!decide (v18002 = v7002.1))) hb8 h
        simp only [go_sem, Nat.reduceEqDiff, reduceIte, Nat.reduceAdd, Nat.reduceMul, Nat.reduceLeDiff, Nat.reduceLT]
        refine seq_go ?_
        simp only [go_sem, Nat.reduceEqDiff, reduceIte, Nat.reduceAdd, Nat.reduceMul, Nat.reduceLeDiff, Nat.reduceLT]
        obtain rfl := Option.some.inj h
        simp only [go_sem, Nat.reduceEqDiff, reduceIte, Nat.reduceAdd, Nat.reduceMul, Nat.reduceLeDiff, Nat.reduceLT]
theorem l_FnExactNewQueue_j1_ok (a0 : Int) (v2001 : Queue × Int) (v3001 : Queue × Int) (p0_0 : Bool) (r : Bool) (h : l_FnExactNewQueue_j1 a0 v2001 v3001 p0_0 = some r) : posF Try.prog Try.f3 [1, 1, 1, 0, 1] (.bool r) ⟨[(0, .int .i64 a0), (3, .box 1000000500 0), (4, .int .i64 v2001.2), (5, .box 1000000501 0), (29, .bool p0_0)], [(1000000000, some ⟨List.map Job.ds v2001.1.jobs, some 10, 0⟩), (1000000001, some ⟨List.map Job.ds v3001.1.jobs, some 10, 0⟩)], [(1000000500, some [.int .i64 v2001.1.quantum, .int .i64 v2001.1.nextId, .int .i64 v2001.1.turn, .own 1000000000]), (1000000501, some [.int .i64 v3001.1.quantum, .int .i64 v3001.1.nextId, .int .i64 v3001.1.turn, .own 1000000001])]⟩ := by
  unfold l_FnExactNewQueue_j1 at h
  refine posF_of rfl rfl ?_
  simp only [go_sem, Nat.reduceEqDiff, reduceIte, Nat.reduceAdd, Nat.reduceMul, Nat.reduceLeDiff, Nat.reduceLT]
  refine cond_i (fun hb2 => ?_) (fun hb2 => ?_)
  · replace h := ifT (c := p0_0) hb2 h
    simp only [go_sem, Nat.reduceEqDiff, reduceIte, Nat.reduceAdd, Nat.reduceMul, Nat.reduceLeDiff, Nat.reduceLT]
    obtain rfl := Option.some.inj h
    simp only [go_sem, Nat.reduceEqDiff, reduceIte, Nat.reduceAdd, Nat.reduceMul, Nat.reduceLeDiff, Nat.reduceLT]
  · replace h := ifF (c := p0_0) hb2 h
    simp only [go_sem, Nat.reduceEqDiff, reduceIte, Nat.reduceAdd, Nat.reduceMul, Nat.reduceLeDiff, Nat.reduceLT]
    refine seq_go ?_
    simp only [go_sem, Nat.reduceEqDiff, reduceIte, Nat.reduceAdd, Nat.reduceMul, Nat.reduceLeDiff, Nat.reduceLT]
    obtain ⟨v7002, hv7002, h⟩ := bindE h
    refine call_g ⟨[], [(1, 1000000001)], [], [], [], true⟩ (by kernel_rfl) (l_markQueue_ok _ _ (some 10) _ hv7002) (by kernel_rfl) ?_
    simp only [go_sem, Nat.reduceEqDiff, reduceIte, Nat.reduceAdd, Nat.reduceMul, Nat.reduceLeDiff, Nat.reduceLT]
    obtain ⟨v9002, hv9002, h⟩ := bindE h
    refine call_i (l_heldQueue_ok _ _ _ hv9002) ?_
    simp only [go_sem, Nat.reduceEqDiff, reduceIte, Nat.reduceAdd, Nat.reduceMul, Nat.reduceLeDiff, Nat.reduceLT]
    refine cond_i (fun hb3 => ?_) (fun hb3 => ?_)
    · replace h := ifT (c := (decide (v9002 < 0))) hb3 h
      simp only [go_sem, Nat.reduceEqDiff, reduceIte, Nat.reduceAdd, Nat.reduceMul, Nat.reduceLeDiff, Nat.reduceLT]
      obtain rfl := Option.some.inj h
      simp only [go_sem, Nat.reduceEqDiff, reduceIte, Nat.reduceAdd, Nat.reduceMul, Nat.reduceLeDiff, Nat.reduceLT]
    · replace h := ifF (c := (decide (v9002 < 0))) hb3 h
      simp only [go_sem, Nat.reduceEqDiff, reduceIte, Nat.reduceAdd, Nat.reduceMul, Nat.reduceLeDiff, Nat.reduceLT]
      refine seq_go ?_
      simp only [go_sem, Nat.reduceEqDiff, reduceIte, Nat.reduceAdd, Nat.reduceMul, Nat.reduceLeDiff, Nat.reduceLT]
      refine cond_i (fun hb4 => ?_) (fun hb4 => ?_)
      · replace h := ifT (c := (!decide (v9002 = v7002.1))) hb4 h
        simp only [go_sem, Nat.reduceEqDiff, reduceIte, Nat.reduceAdd, Nat.reduceMul, Nat.reduceLeDiff, Nat.reduceLT]
        obtain rfl := Option.some.inj h
        simp only [go_sem, Nat.reduceEqDiff, reduceIte, Nat.reduceAdd, Nat.reduceMul, Nat.reduceLeDiff, Nat.reduceLT]
      · replace h := ifF (c := (!decide (v9002 = v7002.1))) hb4 h
        simp only [go_sem, Nat.reduceEqDiff, reduceIte, Nat.reduceAdd, Nat.reduceMul, Nat.reduceLeDiff, Nat.reduceLT]
        refine seq_go ?_
        simp only [go_sem, Nat.reduceEqDiff, reduceIte, Nat.reduceAdd, Nat.reduceMul, Nat.reduceLeDiff, Nat.reduceLT]
        obtain ⟨v14001, hv14001, h⟩ := bindE h
        refine call_i (i_NewQueue_ok _ _ hv14001) ?_
        simp only [go_sem, Nat.reduceEqDiff, reduceIte, Nat.reduceAdd, Nat.reduceMul, Nat.reduceLeDiff, Nat.reduceLT]
        obtain ⟨v15002, hv15002, h⟩ := bindE h
        refine call_i (l_eqQueue_ok _ _ _ hv15002) ?_
        simp only [go_sem, Nat.reduceEqDiff, reduceIte, Nat.reduceAdd, Nat.reduceMul, Nat.reduceLeDiff, Nat.reduceLT]
        refine cond_i (fun hb5 => ?_) (fun hb5 => ?_)
        · replace h := ifT (c := (!v15002)) hb5 h
          simp only [go_sem, Nat.reduceEqDiff, reduceIte, Nat.reduceAdd, Nat.reduceMul, Nat.reduceLeDiff, Nat.reduceLT]
          have hj := posF_to rfl rfl (l_FnExactNewQueue_j2_ok v3001 v7002 true _ h)
          refine seq_to hj (.one ⟨_, .done _, [(1000001000, 1000000001)], [(1000001500, 1000000501)], ?_⟩)
          clear hj
          simp only [go_sem, Nat.reduceEqDiff, reduceIte, Nat.reduceAdd, Nat.reduceMul, Nat.reduceLeDiff, Nat.reduceLT]
        · replace h := ifF (c := (!v15002)) hb5 h
          simp only [go_sem, Nat.reduceEqDiff, reduceIte, Nat.reduceAdd, Nat.reduceMul, Nat.reduceLeDiff, Nat.reduceLT]
          have hj := posF_to rfl rfl (l_FnExactNewQueue_j2_ok v3001 v7002 (!decide (v14001.2 = v2001.2)) _ h)
          refine seq_to hj (.one ⟨_, .done _, [(1000001000, 1000000001)], [(1000001500, 1000000501)], ?_⟩)
          clear hj
          simp only [go_sem, Nat.reduceEqDiff, reduceIte, Nat.reduceAdd, Nat.reduceMul, Nat.reduceLeDiff, Nat.reduceLT]
theorem l_FnExactNewQueue_ok (a0 : Int) (r : Bool) (h : l_FnExactNewQueue a0 = some r) : AC Try.prog 3 [.int .i64 a0] (.bool r) := by
  unfold l_FnExactNewQueue at h
  refine ac_fn mixed Try.func3 rfl rfl rfl (by kernel_rfl) (by kernel_rfl) ?_
  simp only [go_sem, Nat.reduceEqDiff, reduceIte, Nat.reduceAdd, Nat.reduceMul, Nat.reduceLeDiff, Nat.reduceLT]
  obtain ⟨v2001, hv2001, h⟩ := bindE h
  refine call_i (s_NewQueue_ok _ _ hv2001) ?_
  simp only [go_sem, Nat.reduceEqDiff, reduceIte, Nat.reduceAdd, Nat.reduceMul, Nat.reduceLeDiff, Nat.reduceLT]
  obtain ⟨v3001, hv3001, h⟩ := bindE h
  refine call_i (i_NewQueue_ok _ _ hv3001) ?_
  simp only [go_sem, Nat.reduceEqDiff, reduceIte, Nat.reduceAdd, Nat.reduceMul, Nat.reduceLeDiff, Nat.reduceLT]
  obtain ⟨v4002, hv4002, h⟩ := bindE h
  refine call_i (l_eqQueue_ok _ _ _ hv4002) ?_
  simp only [go_sem, Nat.reduceEqDiff, reduceIte, Nat.reduceAdd, Nat.reduceMul, Nat.reduceLeDiff, Nat.reduceLT]
  refine cond_i (fun hb1 => ?_) (fun hb1 => ?_)
  · replace h := ifT (c := (!v4002)) hb1 h
    simp only [go_sem, Nat.reduceEqDiff, reduceIte, Nat.reduceAdd, Nat.reduceMul, Nat.reduceLeDiff, Nat.reduceLT]
    have hj := posF_to rfl rfl (l_FnExactNewQueue_j1_ok a0 v2001 v3001 true _ h)
    refine seq_to hj (.one ⟨_, .done _, [(1000000000, 32016), (1000000001, 48016)], [(1000000500, 2005), (1000000501, 3005)], ?_⟩)
    clear hj
    simp only [go_sem, Nat.reduceEqDiff, reduceIte, Nat.reduceAdd, Nat.reduceMul, Nat.reduceLeDiff, Nat.reduceLT]
  · replace h := ifF (c := (!v4002)) hb1 h
    simp only [go_sem, Nat.reduceEqDiff, reduceIte, Nat.reduceAdd, Nat.reduceMul, Nat.reduceLeDiff, Nat.reduceLT]
    have hj := posF_to rfl rfl (l_FnExactNewQueue_j1_ok a0 v2001 v3001 (!decide (v3001.2 = v2001.2)) _ h)
    refine seq_to hj (.one ⟨_, .done _, [(1000000000, 32016), (1000000001, 48016)], [(1000000500, 2005), (1000000501, 3005)], ?_⟩)
    clear hj
    simp only [go_sem, Nat.reduceEqDiff, reduceIte, Nat.reduceAdd, Nat.reduceMul, Nat.reduceLeDiff, Nat.reduceLT]
end Go.Proofs.Ytfbnlkaggggmiaa.Ab
