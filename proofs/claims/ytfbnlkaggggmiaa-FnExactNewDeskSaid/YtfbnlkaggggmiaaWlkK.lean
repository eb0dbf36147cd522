/-
  The functions do what their models say. Printed by wip/ab/gen.py.
-/
import Derived.Test.YtfbnlkaggggmiaaModK
import Derived.Test.YtfbnlkaggggmiaaTi2
import Derived.Test.YtfbnlkaggggmiaaWlk
namespace Go.Proofs.Ytfbnlkaggggmiaa.Ab
set_option linter.unusedVariables false
set_option linter.unusedSimpArgs false
set_option maxRecDepth 20000
set_option maxHeartbeats 4000000
open Go.RowKit

theorem s_NewDesk_ok  (r : Desk) (h : s_NewDesk  = some r) : AC Try.prog 51 [] (.agg (Desk.rv r)) := by
  unfold s_NewDesk at h
  refine ac_fn mixed Try.func51 rfl rfl rfl (by kernel_rfl) (by kernel_rfl) ?_
  try simp only [go_sem, Nat.reduceEqDiff, reduceIte, Nat.reduceAdd, Nat.reduceMul, Nat.reduceLeDiff, Nat.reduceLT]
  obtain rfl := Option.some.inj h
  simp only [go_sem, Nat.reduceEqDiff, reduceIte, Nat.reduceAdd, Nat.reduceMul, Nat.reduceLeDiff, Nat.reduceLT]
theorem i_NewDesk_ok  (r : Desk) (h : i_NewDesk  = some r) : AC Try.prog 52 [] (.agg (Desk.rv r)) := by
  unfold i_NewDesk at h
  refine ac_fn mixed Try.func52 rfl rfl rfl (by kernel_rfl) (by kernel_rfl) ?_
  try simp only [go_sem, Nat.reduceEqDiff, reduceIte, Nat.reduceAdd, Nat.reduceMul, Nat.reduceLeDiff, Nat.reduceLT]
  obtain rfl := Option.some.inj h
  simp only [go_sem, Nat.reduceEqDiff, reduceIte, Nat.reduceAdd, Nat.reduceMul, Nat.reduceLeDiff, Nat.reduceLT]
theorem l_eqType_all (n : Nat) : (∀ (a0 : TType) (a1 : TType) (r : Bool), l_eqType n a0 a1 = some r → AC Try.prog 255 [.agg (TType.avs a0), .agg (TType.avs a1)] (.bool r)) ∧
    (∀ (a0 : List TType) (a1 : List TType) (r : Bool), l_eqTypeS n a0 a1 = some r → AC Try.prog 261 [.ro (List.map TType.ds a0), .ro (List.map TType.ds a1)] (.bool r)) ∧
    (∀ (a0 : List TType) (a1 : List TType) (p0_0 : Int) (r : Bool), l_eqTypeS_l1 n a0 a1 p0_0 = some r → posF Try.prog Try.f261 [1, 1, 0, 1, 0] (.bool r) ⟨[(0, .ro (List.map TType.ds a0)), (1, .ro (List.map TType.ds a1)), (5, .int .i64 p0_0)], [], []⟩) := by
  induction n with
  | zero => exact ⟨(fun _ _ _ h => by rw [l_eqType] at h; cases h), (fun _ _ _ h => by rw [l_eqTypeS] at h; cases h), (fun _ _ _ _ h => by rw [l_eqTypeS_l1] at h; cases h)⟩
  | succ n ih =>
    obtain ⟨ih0, ih1, ih2⟩ := ih
    refine ⟨?_, ?_, ?_⟩
    · intro a0 a1 r h
      rw [l_eqType] at h
      refine ac_fn mixed Try.func255 rfl rfl rfl (by kernel_rfl) (by kernel_rfl) ?_
      try simp only [go_sem, Nat.reduceEqDiff, reduceIte, Nat.reduceAdd, Nat.reduceMul, Nat.reduceLeDiff, Nat.reduceLT]
      refine cond_i (fun hb1 => ?_) (fun hb1 => ?_)
      · replace h := ifT (c := (!decide (a0.kind = a1.kind))) hb1 h
        try simp only [go_sem, Nat.reduceEqDiff, reduceIte, Nat.reduceAdd, Nat.reduceMul, Nat.reduceLeDiff, Nat.reduceLT]
        obtain rfl := Option.some.inj h
        simp only [go_sem, Nat.reduceEqDiff, reduceIte, Nat.reduceAdd, Nat.reduceMul, Nat.reduceLeDiff, Nat.reduceLT]
      · replace h := ifF (c := (!decide (a0.kind = a1.kind))) hb1 h
        try simp only [go_sem, Nat.reduceEqDiff, reduceIte, Nat.reduceAdd, Nat.reduceMul, Nat.reduceLeDiff, Nat.reduceLT]
        refine seq_go ?_
        try simp only [go_sem, Nat.reduceEqDiff, reduceIte, Nat.reduceAdd, Nat.reduceMul, Nat.reduceLeDiff, Nat.reduceLT]
        refine cond_i (fun hb2 => ?_) (fun hb2 => ?_)
        · replace h := ifT (c := (!sameStr a0.name a1.name)) hb2 h
          try simp only [go_sem, Nat.reduceEqDiff, reduceIte, Nat.reduceAdd, Nat.reduceMul, Nat.reduceLeDiff, Nat.reduceLT]
          obtain rfl := Option.some.inj h
          simp only [go_sem, Nat.reduceEqDiff, reduceIte, Nat.reduceAdd, Nat.reduceMul, Nat.reduceLeDiff, Nat.reduceLT]
        · replace h := ifF (c := (!sameStr a0.name a1.name)) hb2 h
          try simp only [go_sem, Nat.reduceEqDiff, reduceIte, Nat.reduceAdd, Nat.reduceMul, Nat.reduceLeDiff, Nat.reduceLT]
          refine seq_go ?_
          try simp only [go_sem, Nat.reduceEqDiff, reduceIte, Nat.reduceAdd, Nat.reduceMul, Nat.reduceLeDiff, Nat.reduceLT]
          obtain ⟨v6004, hv6004, h⟩ := bindE h
          refine call_i (ih1 _ _ _ hv6004) ?_
          try simp only [go_sem, Nat.reduceEqDiff, reduceIte, Nat.reduceAdd, Nat.reduceMul, Nat.reduceLeDiff, Nat.reduceLT]
          refine cond_i (fun hb3 => ?_) (fun hb3 => ?_)
          · replace h := ifT (c := (!v6004)) hb3 h
            try simp only [go_sem, Nat.reduceEqDiff, reduceIte, Nat.reduceAdd, Nat.reduceMul, Nat.reduceLeDiff, Nat.reduceLT]
            obtain rfl := Option.some.inj h
            simp only [go_sem, Nat.reduceEqDiff, reduceIte, Nat.reduceAdd, Nat.reduceMul, Nat.reduceLeDiff, Nat.reduceLT]
          · replace h := ifF (c := (!v6004)) hb3 h
            try simp only [go_sem, Nat.reduceEqDiff, reduceIte, Nat.reduceAdd, Nat.reduceMul, Nat.reduceLeDiff, Nat.reduceLT]
            refine seq_go ?_
            try simp only [go_sem, Nat.reduceEqDiff, reduceIte, Nat.reduceAdd, Nat.reduceMul, Nat.reduceLeDiff, Nat.reduceLT]
            obtain rfl := Option.some.inj h
            simp only [go_sem, Nat.reduceEqDiff, reduceIte, Nat.reduceAdd, Nat.reduceMul, Nat.reduceLeDiff, Nat.reduceLT]
    · intro a0 a1 r h
      rw [l_eqTypeS] at h
      refine ac_fn mixed Try.func261 rfl rfl rfl (by kernel_rfl) (by kernel_rfl) ?_
      try simp only [go_sem, Nat.reduceEqDiff, reduceIte, Nat.reduceAdd, Nat.reduceMul, Nat.reduceLeDiff, Nat.reduceLT]
      refine cond_i (fun hb1 => ?_) (fun hb1 => ?_)
      · replace h := ifT (c := (!decide (((List.length a0 : Nat) : Int) = ((List.length a1 : Nat) : Int)))) hb1 h
        try simp only [go_sem, Nat.reduceEqDiff, reduceIte, Nat.reduceAdd, Nat.reduceMul, Nat.reduceLeDiff, Nat.reduceLT]
        obtain rfl := Option.some.inj h
        simp only [go_sem, Nat.reduceEqDiff, reduceIte, Nat.reduceAdd, Nat.reduceMul, Nat.reduceLeDiff, Nat.reduceLT]
      · replace h := ifF (c := (!decide (((List.length a0 : Nat) : Int) = ((List.length a1 : Nat) : Int)))) hb1 h
        try simp only [go_sem, Nat.reduceEqDiff, reduceIte, Nat.reduceAdd, Nat.reduceMul, Nat.reduceLeDiff, Nat.reduceLT]
        refine seq_go ?_
        try simp only [go_sem, Nat.reduceEqDiff, reduceIte, Nat.reduceAdd, Nat.reduceMul, Nat.reduceLeDiff, Nat.reduceLT]
        have hj := posF_to rfl rfl (ih2 a0 a1 0 _ h)
        refine loop_to hj (.one ⟨_, .done _, [], [], ?_⟩)
        clear hj
        try simp only [go_sem, Nat.reduceEqDiff, reduceIte, Nat.reduceAdd, Nat.reduceMul, Nat.reduceLeDiff, Nat.reduceLT]
    · intro a0 a1 p0_0 r h
      rw [l_eqTypeS_l1] at h
      refine posF_of rfl rfl ?_
      try simp only [go_sem, Nat.reduceEqDiff, reduceIte, Nat.reduceAdd, Nat.reduceMul, Nat.reduceLeDiff, Nat.reduceLT]
      refine loop_i ?_
      try simp only [go_sem, Nat.reduceEqDiff, reduceIte, Nat.reduceAdd, Nat.reduceMul, Nat.reduceLeDiff, Nat.reduceLT]
      refine cond_i (fun hb2 => ?_) (fun hb2 => ?_)
      · replace h := ifT (c := (decide (p0_0 < ((List.length a0 : Nat) : Int)))) hb2 h
        try simp only [go_sem, Nat.reduceEqDiff, reduceIte, Nat.reduceAdd, Nat.reduceMul, Nat.reduceLeDiff, Nat.reduceLT]
        refine seq_go ?_
        try simp only [go_sem, Nat.reduceEqDiff, reduceIte, Nat.reduceAdd, Nat.reduceMul, Nat.reduceLeDiff, Nat.reduceLT]
        obtain ⟨v7002, hv7002, h⟩ := bindE h
        refine idx_m hv7002 (TType.ds_len _) ?_
        try simp only [go_sem, Nat.reduceEqDiff, reduceIte, Nat.reduceAdd, Nat.reduceMul, Nat.reduceLeDiff, Nat.reduceLT]
        obtain ⟨v7006, hv7006, h⟩ := bindE h
        refine idx_m hv7006 (TType.ds_len _) ?_
        try simp only [go_sem, Nat.reduceEqDiff, reduceIte, Nat.reduceAdd, Nat.reduceMul, Nat.reduceLeDiff, Nat.reduceLT]
        obtain ⟨v7008, hv7008, h⟩ := bindE h
        refine call_i (ih0 _ _ _ hv7008) ?_
        try simp only [go_sem, Nat.reduceEqDiff, reduceIte, Nat.reduceAdd, Nat.reduceMul, Nat.reduceLeDiff, Nat.reduceLT]
        refine cond_i (fun hb3 => ?_) (fun hb3 => ?_)
        · replace h := ifT (c := (!v7008)) hb3 h
          try simp only [go_sem, Nat.reduceEqDiff, reduceIte, Nat.reduceAdd, Nat.reduceMul, Nat.reduceLeDiff, Nat.reduceLT]
          obtain rfl := Option.some.inj h
          simp only [go_sem, Nat.reduceEqDiff, reduceIte, Nat.reduceAdd, Nat.reduceMul, Nat.reduceLeDiff, Nat.reduceLT]
        · replace h := ifF (c := (!v7008)) hb3 h
          try simp only [go_sem, Nat.reduceEqDiff, reduceIte, Nat.reduceAdd, Nat.reduceMul, Nat.reduceLeDiff, Nat.reduceLT]
          refine seq_go ?_
          try simp only [go_sem, Nat.reduceEqDiff, reduceIte, Nat.reduceAdd, Nat.reduceMul, Nat.reduceLeDiff, Nat.reduceLT]
          have hj := posF_to rfl rfl (ih2 a0 a1 (IntKind.i64.wrap (p0_0 + 1)) _ h)
          refine lp_to hj (.one ⟨_, .done _, [], [], ?_⟩)
          clear hj
          try simp only [go_sem, Nat.reduceEqDiff, reduceIte, Nat.reduceAdd, Nat.reduceMul, Nat.reduceLeDiff, Nat.reduceLT]
      · replace h := ifF (c := (decide (p0_0 < ((List.length a0 : Nat) : Int)))) hb2 h
        try simp only [go_sem, Nat.reduceEqDiff, reduceIte, Nat.reduceAdd, Nat.reduceMul, Nat.reduceLeDiff, Nat.reduceLT]
        refine seq_go ?_
        try simp only [go_sem, Nat.reduceEqDiff, reduceIte, Nat.reduceAdd, Nat.reduceMul, Nat.reduceLeDiff, Nat.reduceLT]
        obtain rfl := Option.some.inj h
        simp only [go_sem, Nat.reduceEqDiff, reduceIte, Nat.reduceAdd, Nat.reduceMul, Nat.reduceLeDiff, Nat.reduceLT]
theorem l_eqType_ok (n : Nat) : (∀ (a0 : TType) (a1 : TType) (r : Bool), l_eqType n a0 a1 = some r → AC Try.prog 255 [.agg (TType.avs a0), .agg (TType.avs a1)] (.bool r)) := (l_eqType_all n).1
theorem l_eqTypeS_ok (n : Nat) : (∀ (a0 : List TType) (a1 : List TType) (r : Bool), l_eqTypeS n a0 a1 = some r → AC Try.prog 261 [.ro (List.map TType.ds a0), .ro (List.map TType.ds a1)] (.bool r)) := (l_eqType_all n).2.1
theorem l_eqTypeS_l1_ok (n : Nat) : (∀ (a0 : List TType) (a1 : List TType) (p0_0 : Int) (r : Bool), l_eqTypeS_l1 n a0 a1 p0_0 = some r → posF Try.prog Try.f261 [1, 1, 0, 1, 0] (.bool r) ⟨[(0, .ro (List.map TType.ds a0)), (1, .ro (List.map TType.ds a1)), (5, .int .i64 p0_0)], [], []⟩) := (l_eqType_all n).2.2

theorem l_eqConstructor_ok (a0 : Constructor) (a1 : Constructor) (r : Bool) (h : l_eqConstructor a0 a1 = some r) : AC Try.prog 260 [.agg (Constructor.avs a0), .agg (Constructor.avs a1)] (.bool r) := by
  unfold l_eqConstructor at h
  refine ac_fn mixed Try.func260 rfl rfl rfl (by kernel_rfl) (by kernel_rfl) ?_
  try simp only [go_sem, Nat.reduceEqDiff, reduceIte, Nat.reduceAdd, Nat.reduceMul, Nat.reduceLeDiff, Nat.reduceLT]
  refine cond_i (fun hb1 => ?_) (fun hb1 => ?_)
  · replace h := ifT (c := (!sameStr a0.name a1.name)) hb1 h
    try simp only [go_sem, Nat.reduceEqDiff, reduceIte, Nat.reduceAdd, Nat.reduceMul, Nat.reduceLeDiff, Nat.reduceLT]
    obtain rfl := Option.some.inj h
    simp only [go_sem, Nat.reduceEqDiff, reduceIte, Nat.reduceAdd, Nat.reduceMul, Nat.reduceLeDiff, Nat.reduceLT]
  · replace h := ifF (c := (!sameStr a0.name a1.name)) hb1 h
    try simp only [go_sem, Nat.reduceEqDiff, reduceIte, Nat.reduceAdd, Nat.reduceMul, Nat.reduceLeDiff, Nat.reduceLT]
    refine seq_go ?_
    try simp only [go_sem, Nat.reduceEqDiff, reduceIte, Nat.reduceAdd, Nat.reduceMul, Nat.reduceLeDiff, Nat.reduceLT]
    obtain ⟨v4004, hv4004, h⟩ := bindE h
    refine call_i (l_eqTypeS_ok fuel _ _ _ hv4004) ?_
    try simp only [go_sem, Nat.reduceEqDiff, reduceIte, Nat.reduceAdd, Nat.reduceMul, Nat.reduceLeDiff, Nat.reduceLT]
    refine cond_i (fun hb2 => ?_) (fun hb2 => ?_)
    · replace h := ifT (c := (!v4004)) hb2 h
      try simp only [go_sem, Nat.reduceEqDiff, reduceIte, Nat.reduceAdd, Nat.reduceMul, Nat.reduceLeDiff, Nat.reduceLT]
      obtain rfl := Option.some.inj h
      simp only [go_sem, Nat.reduceEqDiff, reduceIte, Nat.reduceAdd, Nat.reduceMul, Nat.reduceLeDiff, Nat.reduceLT]
    · replace h := ifF (c := (!v4004)) hb2 h
      try simp only [go_sem, Nat.reduceEqDiff, reduceIte, Nat.reduceAdd, Nat.reduceMul, Nat.reduceLeDiff, Nat.reduceLT]
      refine seq_go ?_
      try simp only [go_sem, Nat.reduceEqDiff, reduceIte, Nat.reduceAdd, Nat.reduceMul, Nat.reduceLeDiff, Nat.reduceLT]
      obtain rfl := Option.some.inj h
      simp only [go_sem, Nat.reduceEqDiff, reduceIte, Nat.reduceAdd, Nat.reduceMul, Nat.reduceLeDiff, Nat.reduceLT]
theorem l_eqConstructorS_l1_all (n : Nat) : (∀ (a0 : List Constructor) (a1 : List Constructor) (p0_0 : Int) (r : Bool), l_eqConstructorS_l1 n a0 a1 p0_0 = some r → posF Try.prog Try.f254 [1, 1, 0, 1, 0] (.bool r) ⟨[(0, .ro (List.map Constructor.ds a0)), (1, .ro (List.map Constructor.ds a1)), (5, .int .i64 p0_0)], [], []⟩) := by
  induction n with
  | zero => exact ((fun _ _ _ _ h => by rw [l_eqConstructorS_l1] at h; cases h))
  | succ n ih =>
    have ih0 := ih
    · intro a0 a1 p0_0 r h
      rw [l_eqConstructorS_l1] at h
      refine posF_of rfl rfl ?_
      try simp only [go_sem, Nat.reduceEqDiff, reduceIte, Nat.reduceAdd, Nat.reduceMul, Nat.reduceLeDiff, Nat.reduceLT]
      refine loop_i ?_
      try simp only [go_sem, Nat.reduceEqDiff, reduceIte, Nat.reduceAdd, Nat.reduceMul, Nat.reduceLeDiff, Nat.reduceLT]
      refine cond_i (fun hb2 => ?_) (fun hb2 => ?_)
      · replace h := ifT (c := (decide (p0_0 < ((List.length a0 : Nat) : Int)))) hb2 h
        try simp only [go_sem, Nat.reduceEqDiff, reduceIte, Nat.reduceAdd, Nat.reduceMul, Nat.reduceLeDiff, Nat.reduceLT]
        refine seq_go ?_
        try simp only [go_sem, Nat.reduceEqDiff, reduceIte, Nat.reduceAdd, Nat.reduceMul, Nat.reduceLeDiff, Nat.reduceLT]
        obtain ⟨v7002, hv7002, h⟩ := bindE h
        refine idx_m hv7002 (Constructor.ds_len _) ?_
        try simp only [go_sem, Nat.reduceEqDiff, reduceIte, Nat.reduceAdd, Nat.reduceMul, Nat.reduceLeDiff, Nat.reduceLT]
        obtain ⟨v7006, hv7006, h⟩ := bindE h
        refine idx_m hv7006 (Constructor.ds_len _) ?_
        try simp only [go_sem, Nat.reduceEqDiff, reduceIte, Nat.reduceAdd, Nat.reduceMul, Nat.reduceLeDiff, Nat.reduceLT]
        obtain ⟨v7008, hv7008, h⟩ := bindE h
        refine call_i (l_eqConstructor_ok _ _ _ hv7008) ?_
        try simp only [go_sem, Nat.reduceEqDiff, reduceIte, Nat.reduceAdd, Nat.reduceMul, Nat.reduceLeDiff, Nat.reduceLT]
        refine cond_i (fun hb3 => ?_) (fun hb3 => ?_)
        · replace h := ifT (c := (!v7008)) hb3 h
          try simp only [go_sem, Nat.reduceEqDiff, reduceIte, Nat.reduceAdd, Nat.reduceMul, Nat.reduceLeDiff, Nat.reduceLT]
          obtain rfl := Option.some.inj h
          simp only [go_sem, Nat.reduceEqDiff, reduceIte, Nat.reduceAdd, Nat.reduceMul, Nat.reduceLeDiff, Nat.reduceLT]
        · replace h := ifF (c := (!v7008)) hb3 h
          try simp only [go_sem, Nat.reduceEqDiff, reduceIte, Nat.reduceAdd, Nat.reduceMul, Nat.reduceLeDiff, Nat.reduceLT]
          refine seq_go ?_
          try simp only [go_sem, Nat.reduceEqDiff, reduceIte, Nat.reduceAdd, Nat.reduceMul, Nat.reduceLeDiff, Nat.reduceLT]
          have hj := posF_to rfl rfl (ih0 a0 a1 (IntKind.i64.wrap (p0_0 + 1)) _ h)
          refine lp_to hj (.one ⟨_, .done _, [], [], ?_⟩)
          clear hj
          try simp only [go_sem, Nat.reduceEqDiff, reduceIte, Nat.reduceAdd, Nat.reduceMul, Nat.reduceLeDiff, Nat.reduceLT]
      · replace h := ifF (c := (decide (p0_0 < ((List.length a0 : Nat) : Int)))) hb2 h
        try simp only [go_sem, Nat.reduceEqDiff, reduceIte, Nat.reduceAdd, Nat.reduceMul, Nat.reduceLeDiff, Nat.reduceLT]
        refine seq_go ?_
        try simp only [go_sem, Nat.reduceEqDiff, reduceIte, Nat.reduceAdd, Nat.reduceMul, Nat.reduceLeDiff, Nat.reduceLT]
        obtain rfl := Option.some.inj h
        simp only [go_sem, Nat.reduceEqDiff, reduceIte, Nat.reduceAdd, Nat.reduceMul, Nat.reduceLeDiff, Nat.reduceLT]
theorem l_eqConstructorS_l1_ok (n : Nat) : (∀ (a0 : List Constructor) (a1 : List Constructor) (p0_0 : Int) (r : Bool), l_eqConstructorS_l1 n a0 a1 p0_0 = some r → posF Try.prog Try.f254 [1, 1, 0, 1, 0] (.bool r) ⟨[(0, .ro (List.map Constructor.ds a0)), (1, .ro (List.map Constructor.ds a1)), (5, .int .i64 p0_0)], [], []⟩) := (l_eqConstructorS_l1_all n)

theorem l_eqConstructorS_ok (a0 : List Constructor) (a1 : List Constructor) (r : Bool) (h : l_eqConstructorS a0 a1 = some r) : AC Try.prog 254 [.ro (List.map Constructor.ds a0), .ro (List.map Constructor.ds a1)] (.bool r) := by
  unfold l_eqConstructorS at h
  refine ac_fn mixed Try.func254 rfl rfl rfl (by kernel_rfl) (by kernel_rfl) ?_
  try simp only [go_sem, Nat.reduceEqDiff, reduceIte, Nat.reduceAdd, Nat.reduceMul, Nat.reduceLeDiff, Nat.reduceLT]
  refine cond_i (fun hb1 => ?_) (fun hb1 => ?_)
  · replace h := ifT (c := (!decide (((List.length a0 : Nat) : Int) = ((List.length a1 : Nat) : Int)))) hb1 h
    try simp only [go_sem, Nat.reduceEqDiff, reduceIte, Nat.reduceAdd, Nat.reduceMul, Nat.reduceLeDiff, Nat.reduceLT]
    obtain rfl := Option.some.inj h
    simp only [go_sem, Nat.reduceEqDiff, reduceIte, Nat.reduceAdd, Nat.reduceMul, Nat.reduceLeDiff, Nat.reduceLT]
  · replace h := ifF (c := (!decide (((List.length a0 : Nat) : Int) = ((List.length a1 : Nat) : Int)))) hb1 h
    try simp only [go_sem, Nat.reduceEqDiff, reduceIte, Nat.reduceAdd, Nat.reduceMul, Nat.reduceLeDiff, Nat.reduceLT]
    refine seq_go ?_
    try simp only [go_sem, Nat.reduceEqDiff, reduceIte, Nat.reduceAdd, Nat.reduceMul, Nat.reduceLeDiff, Nat.reduceLT]
    have hj := posF_to rfl rfl (l_eqConstructorS_l1_ok fuel a0 a1 0 _ h)
    refine loop_to hj (.one ⟨_, .done _, [], [], ?_⟩)
    clear hj
    try simp only [go_sem, Nat.reduceEqDiff, reduceIte, Nat.reduceAdd, Nat.reduceMul, Nat.reduceLeDiff, Nat.reduceLT]
theorem l_eqData_ok (a0 : Data) (a1 : Data) (r : Bool) (h : l_eqData a0 a1 = some r) : AC Try.prog 233 [.agg (Data.avs a0), .agg (Data.avs a1)] (.bool r) := by
  unfold l_eqData at h
  refine ac_fn mixed Try.func233 rfl rfl rfl (by kernel_rfl) (by kernel_rfl) ?_
  try simp only [go_sem, Nat.reduceEqDiff, reduceIte, Nat.reduceAdd, Nat.reduceMul, Nat.reduceLeDiff, Nat.reduceLT]
  refine cond_i (fun hb1 => ?_) (fun hb1 => ?_)
  · replace h := ifT (c := (!sameStr a0.name a1.name)) hb1 h
    try simp only [go_sem, Nat.reduceEqDiff, reduceIte, Nat.reduceAdd, Nat.reduceMul, Nat.reduceLeDiff, Nat.reduceLT]
    obtain rfl := Option.some.inj h
    simp only [go_sem, Nat.reduceEqDiff, reduceIte, Nat.reduceAdd, Nat.reduceMul, Nat.reduceLeDiff, Nat.reduceLT]
  · replace h := ifF (c := (!sameStr a0.name a1.name)) hb1 h
    try simp only [go_sem, Nat.reduceEqDiff, reduceIte, Nat.reduceAdd, Nat.reduceMul, Nat.reduceLeDiff, Nat.reduceLT]
    refine seq_go ?_
    try simp only [go_sem, Nat.reduceEqDiff, reduceIte, Nat.reduceAdd, Nat.reduceMul, Nat.reduceLeDiff, Nat.reduceLT]
    obtain ⟨v4004, hv4004, h⟩ := bindE h
    refine call_i (l_eqConstructorS_ok _ _ _ hv4004) ?_
    try simp only [go_sem, Nat.reduceEqDiff, reduceIte, Nat.reduceAdd, Nat.reduceMul, Nat.reduceLeDiff, Nat.reduceLT]
    refine cond_i (fun hb2 => ?_) (fun hb2 => ?_)
    · replace h := ifT (c := (!v4004)) hb2 h
      try simp only [go_sem, Nat.reduceEqDiff, reduceIte, Nat.reduceAdd, Nat.reduceMul, Nat.reduceLeDiff, Nat.reduceLT]
      obtain rfl := Option.some.inj h
      simp only [go_sem, Nat.reduceEqDiff, reduceIte, Nat.reduceAdd, Nat.reduceMul, Nat.reduceLeDiff, Nat.reduceLT]
    · replace h := ifF (c := (!v4004)) hb2 h
      try simp only [go_sem, Nat.reduceEqDiff, reduceIte, Nat.reduceAdd, Nat.reduceMul, Nat.reduceLeDiff, Nat.reduceLT]
      refine seq_go ?_
      try simp only [go_sem, Nat.reduceEqDiff, reduceIte, Nat.reduceAdd, Nat.reduceMul, Nat.reduceLeDiff, Nat.reduceLT]
      obtain rfl := Option.some.inj h
      simp only [go_sem, Nat.reduceEqDiff, reduceIte, Nat.reduceAdd, Nat.reduceMul, Nat.reduceLeDiff, Nat.reduceLT]
theorem l_eqDataS_l1_all (n : Nat) : (∀ (a0 : List Data) (a1 : List Data) (p0_0 : Int) (r : Bool), l_eqDataS_l1 n a0 a1 p0_0 = some r → posF Try.prog Try.f191 [1, 1, 0, 1, 0] (.bool r) ⟨[(0, .ro (List.map Data.ds a0)), (1, .ro (List.map Data.ds a1)), (5, .int .i64 p0_0)], [], []⟩) := by
  induction n with
  | zero => exact ((fun _ _ _ _ h => by rw [l_eqDataS_l1] at h; cases h))
  | succ n ih =>
    have ih0 := ih
    · intro a0 a1 p0_0 r h
      rw [l_eqDataS_l1] at h
      refine posF_of rfl rfl ?_
      try simp only [go_sem, Nat.reduceEqDiff, reduceIte, Nat.reduceAdd, Nat.reduceMul, Nat.reduceLeDiff, Nat.reduceLT]
      refine loop_i ?_
      try simp only [go_sem, Nat.reduceEqDiff, reduceIte, Nat.reduceAdd, Nat.reduceMul, Nat.reduceLeDiff, Nat.reduceLT]
      refine cond_i (fun hb2 => ?_) (fun hb2 => ?_)
      · replace h := ifT (c := (decide (p0_0 < ((List.length a0 : Nat) : Int)))) hb2 h
        try simp only [go_sem, Nat.reduceEqDiff, reduceIte, Nat.reduceAdd, Nat.reduceMul, Nat.reduceLeDiff, Nat.reduceLT]
        refine seq_go ?_
        try simp only [go_sem, Nat.reduceEqDiff, reduceIte, Nat.reduceAdd, Nat.reduceMul, Nat.reduceLeDiff, Nat.reduceLT]
        obtain ⟨v7002, hv7002, h⟩ := bindE h
        refine idx_m hv7002 (Data.ds_len _) ?_
        try simp only [go_sem, Nat.reduceEqDiff, reduceIte, Nat.reduceAdd, Nat.reduceMul, Nat.reduceLeDiff, Nat.reduceLT]
        obtain ⟨v7006, hv7006, h⟩ := bindE h
        refine idx_m hv7006 (Data.ds_len _) ?_
        try simp only [go_sem, Nat.reduceEqDiff, reduceIte, Nat.reduceAdd, Nat.reduceMul, Nat.reduceLeDiff, Nat.reduceLT]
        obtain ⟨v7008, hv7008, h⟩ := bindE h
        refine call_i (l_eqData_ok _ _ _ hv7008) ?_
        try simp only [go_sem, Nat.reduceEqDiff, reduceIte, Nat.reduceAdd, Nat.reduceMul, Nat.reduceLeDiff, Nat.reduceLT]
        refine cond_i (fun hb3 => ?_) (fun hb3 => ?_)
        · replace h := ifT (c := (!v7008)) hb3 h
          try simp only [go_sem, Nat.reduceEqDiff, reduceIte, Nat.reduceAdd, Nat.reduceMul, Nat.reduceLeDiff, Nat.reduceLT]
          obtain rfl := Option.some.inj h
          simp only [go_sem, Nat.reduceEqDiff, reduceIte, Nat.reduceAdd, Nat.reduceMul, Nat.reduceLeDiff, Nat.reduceLT]
        · replace h := ifF (c := (!v7008)) hb3 h
          try simp only [go_sem, Nat.reduceEqDiff, reduceIte, Nat.reduceAdd, Nat.reduceMul, Nat.reduceLeDiff, Nat.reduceLT]
          refine seq_go ?_
          try simp only [go_sem, Nat.reduceEqDiff, reduceIte, Nat.reduceAdd, Nat.reduceMul, Nat.reduceLeDiff, Nat.reduceLT]
          have hj := posF_to rfl rfl (ih0 a0 a1 (IntKind.i64.wrap (p0_0 + 1)) _ h)
          refine lp_to hj (.one ⟨_, .done _, [], [], ?_⟩)
          clear hj
          try simp only [go_sem, Nat.reduceEqDiff, reduceIte, Nat.reduceAdd, Nat.reduceMul, Nat.reduceLeDiff, Nat.reduceLT]
      · replace h := ifF (c := (decide (p0_0 < ((List.length a0 : Nat) : Int)))) hb2 h
        try simp only [go_sem, Nat.reduceEqDiff, reduceIte, Nat.reduceAdd, Nat.reduceMul, Nat.reduceLeDiff, Nat.reduceLT]
        refine seq_go ?_
        try simp only [go_sem, Nat.reduceEqDiff, reduceIte, Nat.reduceAdd, Nat.reduceMul, Nat.reduceLeDiff, Nat.reduceLT]
        obtain rfl := Option.some.inj h
        simp only [go_sem, Nat.reduceEqDiff, reduceIte, Nat.reduceAdd, Nat.reduceMul, Nat.reduceLeDiff, Nat.reduceLT]
theorem l_eqDataS_l1_ok (n : Nat) : (∀ (a0 : List Data) (a1 : List Data) (p0_0 : Int) (r : Bool), l_eqDataS_l1 n a0 a1 p0_0 = some r → posF Try.prog Try.f191 [1, 1, 0, 1, 0] (.bool r) ⟨[(0, .ro (List.map Data.ds a0)), (1, .ro (List.map Data.ds a1)), (5, .int .i64 p0_0)], [], []⟩) := (l_eqDataS_l1_all n)

theorem l_eqDataS_ok (a0 : List Data) (a1 : List Data) (r : Bool) (h : l_eqDataS a0 a1 = some r) : AC Try.prog 191 [.ro (List.map Data.ds a0), .ro (List.map Data.ds a1)] (.bool r) := by
  unfold l_eqDataS at h
  refine ac_fn mixed Try.func191 rfl rfl rfl (by kernel_rfl) (by kernel_rfl) ?_
  try simp only [go_sem, Nat.reduceEqDiff, reduceIte, Nat.reduceAdd, Nat.reduceMul, Nat.reduceLeDiff, Nat.reduceLT]
  refine cond_i (fun hb1 => ?_) (fun hb1 => ?_)
  · replace h := ifT (c := (!decide (((List.length a0 : Nat) : Int) = ((List.length a1 : Nat) : Int)))) hb1 h
    try simp only [go_sem, Nat.reduceEqDiff, reduceIte, Nat.reduceAdd, Nat.reduceMul, Nat.reduceLeDiff, Nat.reduceLT]
    obtain rfl := Option.some.inj h
    simp only [go_sem, Nat.reduceEqDiff, reduceIte, Nat.reduceAdd, Nat.reduceMul, Nat.reduceLeDiff, Nat.reduceLT]
  · replace h := ifF (c := (!decide (((List.length a0 : Nat) : Int) = ((List.length a1 : Nat) : Int)))) hb1 h
    try simp only [go_sem, Nat.reduceEqDiff, reduceIte, Nat.reduceAdd, Nat.reduceMul, Nat.reduceLeDiff, Nat.reduceLT]
    refine seq_go ?_
    try simp only [go_sem, Nat.reduceEqDiff, reduceIte, Nat.reduceAdd, Nat.reduceMul, Nat.reduceLeDiff, Nat.reduceLT]
    have hj := posF_to rfl rfl (l_eqDataS_l1_ok fuel a0 a1 0 _ h)
    refine loop_to hj (.one ⟨_, .done _, [], [], ?_⟩)
    clear hj
    try simp only [go_sem, Nat.reduceEqDiff, reduceIte, Nat.reduceAdd, Nat.reduceMul, Nat.reduceLeDiff, Nat.reduceLT]
theorem l_eqTermS_all (n : Nat) : (∀ (a0 : List Term) (a1 : List Term) (r : Bool), l_eqTermS n a0 a1 = some r → AC Try.prog 262 [.ro (List.map Term.ds a0), .ro (List.map Term.ds a1)] (.bool r)) ∧
    (∀ (a0 : List Term) (a1 : List Term) (p0_0 : Int) (r : Bool), l_eqTermS_l1 n a0 a1 p0_0 = some r → posF Try.prog Try.f262 [1, 1, 0, 1, 0] (.bool r) ⟨[(0, .ro (List.map Term.ds a0)), (1, .ro (List.map Term.ds a1)), (5, .int .i64 p0_0)], [], []⟩) ∧
    (∀ (a0 : Term) (a1 : Term) (r : Bool), l_eqTerm n a0 a1 = some r → AC Try.prog 256 [.agg (Term.avs a0), .agg (Term.avs a1)] (.bool r)) := by
  induction n with
  | zero => exact ⟨(fun _ _ _ h => by rw [l_eqTermS] at h; cases h), (fun _ _ _ _ h => by rw [l_eqTermS_l1] at h; cases h), (fun _ _ _ h => by rw [l_eqTerm] at h; cases h)⟩
  | succ n ih =>
    obtain ⟨ih0, ih1, ih2⟩ := ih
    refine ⟨?_, ?_, ?_⟩
    · intro a0 a1 r h
      rw [l_eqTermS] at h
      refine ac_fn mixed Try.func262 rfl rfl rfl (by kernel_rfl) (by kernel_rfl) ?_
      try simp only [go_sem, Nat.reduceEqDiff, reduceIte, Nat.reduceAdd, Nat.reduceMul, Nat.reduceLeDiff, Nat.reduceLT]
      refine cond_i (fun hb1 => ?_) (fun hb1 => ?_)
      · replace h := ifT (c := (!decide (((List.length a0 : Nat) : Int) = ((List.length a1 : Nat) : Int)))) hb1 h
        try simp only [go_sem, Nat.reduceEqDiff, reduceIte, Nat.reduceAdd, Nat.reduceMul, Nat.reduceLeDiff, Nat.reduceLT]
        obtain rfl := Option.some.inj h
        simp only [go_sem, Nat.reduceEqDiff, reduceIte, Nat.reduceAdd, Nat.reduceMul, Nat.reduceLeDiff, Nat.reduceLT]
      · replace h := ifF (c := (!decide (((List.length a0 : Nat) : Int) = ((List.length a1 : Nat) : Int)))) hb1 h
        try simp only [go_sem, Nat.reduceEqDiff, reduceIte, Nat.reduceAdd, Nat.reduceMul, Nat.reduceLeDiff, Nat.reduceLT]
        refine seq_go ?_
        try simp only [go_sem, Nat.reduceEqDiff, reduceIte, Nat.reduceAdd, Nat.reduceMul, Nat.reduceLeDiff, Nat.reduceLT]
        have hj := posF_to rfl rfl (ih1 a0 a1 0 _ h)
        refine loop_to hj (.one ⟨_, .done _, [], [], ?_⟩)
        clear hj
        try simp only [go_sem, Nat.reduceEqDiff, reduceIte, Nat.reduceAdd, Nat.reduceMul, Nat.reduceLeDiff, Nat.reduceLT]
    · intro a0 a1 p0_0 r h
      rw [l_eqTermS_l1] at h
      refine posF_of rfl rfl ?_
      try simp only [go_sem, Nat.reduceEqDiff, reduceIte, Nat.reduceAdd, Nat.reduceMul, Nat.reduceLeDiff, Nat.reduceLT]
      refine loop_i ?_
      try simp only [go_sem, Nat.reduceEqDiff, reduceIte, Nat.reduceAdd, Nat.reduceMul, Nat.reduceLeDiff, Nat.reduceLT]
      refine cond_i (fun hb2 => ?_) (fun hb2 => ?_)
      · replace h := ifT (c := (decide (p0_0 < ((List.length a0 : Nat) : Int)))) hb2 h
        try simp only [go_sem, Nat.reduceEqDiff, reduceIte, Nat.reduceAdd, Nat.reduceMul, Nat.reduceLeDiff, Nat.reduceLT]
        refine seq_go ?_
        try simp only [go_sem, Nat.reduceEqDiff, reduceIte, Nat.reduceAdd, Nat.reduceMul, Nat.reduceLeDiff, Nat.reduceLT]
        obtain ⟨v7002, hv7002, h⟩ := bindE h
        refine idx_m hv7002 (Term.ds_len _) ?_
        try simp only [go_sem, Nat.reduceEqDiff, reduceIte, Nat.reduceAdd, Nat.reduceMul, Nat.reduceLeDiff, Nat.reduceLT]
        obtain ⟨v7006, hv7006, h⟩ := bindE h
        refine idx_m hv7006 (Term.ds_len _) ?_
        try simp only [go_sem, Nat.reduceEqDiff, reduceIte, Nat.reduceAdd, Nat.reduceMul, Nat.reduceLeDiff, Nat.reduceLT]
        obtain ⟨v7008, hv7008, h⟩ := bindE h
        refine call_i (ih2 _ _ _ hv7008) ?_
        try simp only [go_sem, Nat.reduceEqDiff, reduceIte, Nat.reduceAdd, Nat.reduceMul, Nat.reduceLeDiff, Nat.reduceLT]
        refine cond_i (fun hb3 => ?_) (fun hb3 => ?_)
        · replace h := ifT (c := (!v7008)) hb3 h
          try simp only [go_sem, Nat.reduceEqDiff, reduceIte, Nat.reduceAdd, Nat.reduceMul, Nat.reduceLeDiff, Nat.reduceLT]
          obtain rfl := Option.some.inj h
          simp only [go_sem, Nat.reduceEqDiff, reduceIte, Nat.reduceAdd, Nat.reduceMul, Nat.reduceLeDiff, Nat.reduceLT]
        · replace h := ifF (c := (!v7008)) hb3 h
          try simp only [go_sem, Nat.reduceEqDiff, reduceIte, Nat.reduceAdd, Nat.reduceMul, Nat.reduceLeDiff, Nat.reduceLT]
          refine seq_go ?_
          try simp only [go_sem, Nat.reduceEqDiff, reduceIte, Nat.reduceAdd, Nat.reduceMul, Nat.reduceLeDiff, Nat.reduceLT]
          have hj := posF_to rfl rfl (ih1 a0 a1 (IntKind.i64.wrap (p0_0 + 1)) _ h)
          refine lp_to hj (.one ⟨_, .done _, [], [], ?_⟩)
          clear hj
          try simp only [go_sem, Nat.reduceEqDiff, reduceIte, Nat.reduceAdd, Nat.reduceMul, Nat.reduceLeDiff, Nat.reduceLT]
      · replace h := ifF (c := (decide (p0_0 < ((List.length a0 : Nat) : Int)))) hb2 h
        try simp only [go_sem, Nat.reduceEqDiff, reduceIte, Nat.reduceAdd, Nat.reduceMul, Nat.reduceLeDiff, Nat.reduceLT]
        refine seq_go ?_
        try simp only [go_sem, Nat.reduceEqDiff, reduceIte, Nat.reduceAdd, Nat.reduceMul, Nat.reduceLeDiff, Nat.reduceLT]
        obtain rfl := Option.some.inj h
        simp only [go_sem, Nat.reduceEqDiff, reduceIte, Nat.reduceAdd, Nat.reduceMul, Nat.reduceLeDiff, Nat.reduceLT]
    · intro a0 a1 r h
      rw [l_eqTerm] at h
      refine ac_fn mixed Try.func256 rfl rfl rfl (by kernel_rfl) (by kernel_rfl) ?_
      try simp only [go_sem, Nat.reduceEqDiff, reduceIte, Nat.reduceAdd, Nat.reduceMul, Nat.reduceLeDiff, Nat.reduceLT]
      refine cond_i (fun hb1 => ?_) (fun hb1 => ?_)
      · replace h := ifT (c := (!decide (a0.kind = a1.kind))) hb1 h
        try simp only [go_sem, Nat.reduceEqDiff, reduceIte, Nat.reduceAdd, Nat.reduceMul, Nat.reduceLeDiff, Nat.reduceLT]
        obtain rfl := Option.some.inj h
        simp only [go_sem, Nat.reduceEqDiff, reduceIte, Nat.reduceAdd, Nat.reduceMul, Nat.reduceLeDiff, Nat.reduceLT]
      · replace h := ifF (c := (!decide (a0.kind = a1.kind))) hb1 h
        try simp only [go_sem, Nat.reduceEqDiff, reduceIte, Nat.reduceAdd, Nat.reduceMul, Nat.reduceLeDiff, Nat.reduceLT]
        refine seq_go ?_
        try simp only [go_sem, Nat.reduceEqDiff, reduceIte, Nat.reduceAdd, Nat.reduceMul, Nat.reduceLeDiff, Nat.reduceLT]
        refine cond_i (fun hb2 => ?_) (fun hb2 => ?_)
        · replace h := ifT (c := (!decide (a0.num = a1.num))) hb2 h
          try simp only [go_sem, Nat.reduceEqDiff, reduceIte, Nat.reduceAdd, Nat.reduceMul, Nat.reduceLeDiff, Nat.reduceLT]
          obtain rfl := Option.some.inj h
          simp only [go_sem, Nat.reduceEqDiff, reduceIte, Nat.reduceAdd, Nat.reduceMul, Nat.reduceLeDiff, Nat.reduceLT]
        · replace h := ifF (c := (!decide (a0.num = a1.num))) hb2 h
          try simp only [go_sem, Nat.reduceEqDiff, reduceIte, Nat.reduceAdd, Nat.reduceMul, Nat.reduceLeDiff, Nat.reduceLT]
          refine seq_go ?_
          try simp only [go_sem, Nat.reduceEqDiff, reduceIte, Nat.reduceAdd, Nat.reduceMul, Nat.reduceLeDiff, Nat.reduceLT]
          refine cond_i (fun hb3 => ?_) (fun hb3 => ?_)
          · replace h := ifT (c := (!sameStr a0.name a1.name)) hb3 h
            try simp only [go_sem, Nat.reduceEqDiff, reduceIte, Nat.reduceAdd, Nat.reduceMul, Nat.reduceLeDiff, Nat.reduceLT]
            obtain rfl := Option.some.inj h
            simp only [go_sem, Nat.reduceEqDiff, reduceIte, Nat.reduceAdd, Nat.reduceMul, Nat.reduceLeDiff, Nat.reduceLT]
          · replace h := ifF (c := (!sameStr a0.name a1.name)) hb3 h
            try simp only [go_sem, Nat.reduceEqDiff, reduceIte, Nat.reduceAdd, Nat.reduceMul, Nat.reduceLeDiff, Nat.reduceLT]
            refine seq_go ?_
            try simp only [go_sem, Nat.reduceEqDiff, reduceIte, Nat.reduceAdd, Nat.reduceMul, Nat.reduceLeDiff, Nat.reduceLT]
            obtain ⟨v8004, hv8004, h⟩ := bindE h
            refine call_i (l_eqType_ok fuel _ _ _ hv8004) ?_
            try simp only [go_sem, Nat.reduceEqDiff, reduceIte, Nat.reduceAdd, Nat.reduceMul, Nat.reduceLeDiff, Nat.reduceLT]
            refine cond_i (fun hb4 => ?_) (fun hb4 => ?_)
            · replace h := ifT (c := (!v8004)) hb4 h
              try simp only [go_sem, Nat.reduceEqDiff, reduceIte, Nat.reduceAdd, Nat.reduceMul, Nat.reduceLeDiff, Nat.reduceLT]
              obtain rfl := Option.some.inj h
              simp only [go_sem, Nat.reduceEqDiff, reduceIte, Nat.reduceAdd, Nat.reduceMul, Nat.reduceLeDiff, Nat.reduceLT]
            · replace h := ifF (c := (!v8004)) hb4 h
              try simp only [go_sem, Nat.reduceEqDiff, reduceIte, Nat.reduceAdd, Nat.reduceMul, Nat.reduceLeDiff, Nat.reduceLT]
              refine seq_go ?_
              try simp only [go_sem, Nat.reduceEqDiff, reduceIte, Nat.reduceAdd, Nat.reduceMul, Nat.reduceLeDiff, Nat.reduceLT]
              obtain ⟨v10004, hv10004, h⟩ := bindE h
              refine call_i (l_eqStringS_ok _ _ _ hv10004) ?_
              try simp only [go_sem, Nat.reduceEqDiff, reduceIte, Nat.reduceAdd, Nat.reduceMul, Nat.reduceLeDiff, Nat.reduceLT]
              refine cond_i (fun hb5 => ?_) (fun hb5 => ?_)
              · replace h := ifT (c := (!v10004)) hb5 h
                try simp only [go_sem, Nat.reduceEqDiff, reduceIte, Nat.reduceAdd, Nat.reduceMul, Nat.reduceLeDiff, Nat.reduceLT]
                obtain rfl := Option.some.inj h
                simp only [go_sem, Nat.reduceEqDiff, reduceIte, Nat.reduceAdd, Nat.reduceMul, Nat.reduceLeDiff, Nat.reduceLT]
              · replace h := ifF (c := (!v10004)) hb5 h
                try simp only [go_sem, Nat.reduceEqDiff, reduceIte, Nat.reduceAdd, Nat.reduceMul, Nat.reduceLeDiff, Nat.reduceLT]
                refine seq_go ?_
                try simp only [go_sem, Nat.reduceEqDiff, reduceIte, Nat.reduceAdd, Nat.reduceMul, Nat.reduceLeDiff, Nat.reduceLT]
                obtain ⟨v12004, hv12004, h⟩ := bindE h
                refine call_i (ih0 _ _ _ hv12004) ?_
                try simp only [go_sem, Nat.reduceEqDiff, reduceIte, Nat.reduceAdd, Nat.reduceMul, Nat.reduceLeDiff, Nat.reduceLT]
                refine cond_i (fun hb6 => ?_) (fun hb6 => ?_)
                · replace h := ifT (c := (!v12004)) hb6 h
                  try simp only [go_sem, Nat.reduceEqDiff, reduceIte, Nat.reduceAdd, Nat.reduceMul, Nat.reduceLeDiff, Nat.reduceLT]
                  obtain rfl := Option.some.inj h
                  simp only [go_sem, Nat.reduceEqDiff, reduceIte, Nat.reduceAdd, Nat.reduceMul, Nat.reduceLeDiff, Nat.reduceLT]
                · replace h := ifF (c := (!v12004)) hb6 h
                  try simp only [go_sem, Nat.reduceEqDiff, reduceIte, Nat.reduceAdd, Nat.reduceMul, Nat.reduceLeDiff, Nat.reduceLT]
                  refine seq_go ?_
                  try simp only [go_sem, Nat.reduceEqDiff, reduceIte, Nat.reduceAdd, Nat.reduceMul, Nat.reduceLeDiff, Nat.reduceLT]
                  obtain rfl := Option.some.inj h
                  simp only [go_sem, Nat.reduceEqDiff, reduceIte, Nat.reduceAdd, Nat.reduceMul, Nat.reduceLeDiff, Nat.reduceLT]
theorem l_eqTermS_ok (n : Nat) : (∀ (a0 : List Term) (a1 : List Term) (r : Bool), l_eqTermS n a0 a1 = some r → AC Try.prog 262 [.ro (List.map Term.ds a0), .ro (List.map Term.ds a1)] (.bool r)) := (l_eqTermS_all n).1
theorem l_eqTermS_l1_ok (n : Nat) : (∀ (a0 : List Term) (a1 : List Term) (p0_0 : Int) (r : Bool), l_eqTermS_l1 n a0 a1 p0_0 = some r → posF Try.prog Try.f262 [1, 1, 0, 1, 0] (.bool r) ⟨[(0, .ro (List.map Term.ds a0)), (1, .ro (List.map Term.ds a1)), (5, .int .i64 p0_0)], [], []⟩) := (l_eqTermS_all n).2.1
theorem l_eqTerm_ok (n : Nat) : (∀ (a0 : Term) (a1 : Term) (r : Bool), l_eqTerm n a0 a1 = some r → AC Try.prog 256 [.agg (Term.avs a0), .agg (Term.avs a1)] (.bool r)) := (l_eqTermS_all n).2.2

theorem l_eqDef_ok (a0 : Def) (a1 : Def) (r : Bool) (h : l_eqDef a0 a1 = some r) : AC Try.prog 234 [.agg (Def.avs a0), .agg (Def.avs a1)] (.bool r) := by
  unfold l_eqDef at h
  refine ac_fn mixed Try.func234 rfl rfl rfl (by kernel_rfl) (by kernel_rfl) ?_
  try simp only [go_sem, Nat.reduceEqDiff, reduceIte, Nat.reduceAdd, Nat.reduceMul, Nat.reduceLeDiff, Nat.reduceLT]
  refine cond_i (fun hb1 => ?_) (fun hb1 => ?_)
  · replace h := ifT (c := (!sameStr a0.name a1.name)) hb1 h
    try simp only [go_sem, Nat.reduceEqDiff, reduceIte, Nat.reduceAdd, Nat.reduceMul, Nat.reduceLeDiff, Nat.reduceLT]
    obtain rfl := Option.some.inj h
    simp only [go_sem, Nat.reduceEqDiff, reduceIte, Nat.reduceAdd, Nat.reduceMul, Nat.reduceLeDiff, Nat.reduceLT]
  · replace h := ifF (c := (!sameStr a0.name a1.name)) hb1 h
    try simp only [go_sem, Nat.reduceEqDiff, reduceIte, Nat.reduceAdd, Nat.reduceMul, Nat.reduceLeDiff, Nat.reduceLT]
    refine seq_go ?_
    try simp only [go_sem, Nat.reduceEqDiff, reduceIte, Nat.reduceAdd, Nat.reduceMul, Nat.reduceLeDiff, Nat.reduceLT]
    obtain ⟨v4004, hv4004, h⟩ := bindE h
    refine call_i (l_eqType_ok fuel _ _ _ hv4004) ?_
    try simp only [go_sem, Nat.reduceEqDiff, reduceIte, Nat.reduceAdd, Nat.reduceMul, Nat.reduceLeDiff, Nat.reduceLT]
    refine cond_i (fun hb2 => ?_) (fun hb2 => ?_)
    · replace h := ifT (c := (!v4004)) hb2 h
      try simp only [go_sem, Nat.reduceEqDiff, reduceIte, Nat.reduceAdd, Nat.reduceMul, Nat.reduceLeDiff, Nat.reduceLT]
      obtain rfl := Option.some.inj h
      simp only [go_sem, Nat.reduceEqDiff, reduceIte, Nat.reduceAdd, Nat.reduceMul, Nat.reduceLeDiff, Nat.reduceLT]
    · replace h := ifF (c := (!v4004)) hb2 h
      try simp only [go_sem, Nat.reduceEqDiff, reduceIte, Nat.reduceAdd, Nat.reduceMul, Nat.reduceLeDiff, Nat.reduceLT]
      refine seq_go ?_
      try simp only [go_sem, Nat.reduceEqDiff, reduceIte, Nat.reduceAdd, Nat.reduceMul, Nat.reduceLeDiff, Nat.reduceLT]
      obtain ⟨v6004, hv6004, h⟩ := bindE h
      refine call_i (l_eqTerm_ok fuel _ _ _ hv6004) ?_
      try simp only [go_sem, Nat.reduceEqDiff, reduceIte, Nat.reduceAdd, Nat.reduceMul, Nat.reduceLeDiff, Nat.reduceLT]
      refine cond_i (fun hb3 => ?_) (fun hb3 => ?_)
      · replace h := ifT (c := (!v6004)) hb3 h
        try simp only [go_sem, Nat.reduceEqDiff, reduceIte, Nat.reduceAdd, Nat.reduceMul, Nat.reduceLeDiff, Nat.reduceLT]
        obtain rfl := Option.some.inj h
        simp only [go_sem, Nat.reduceEqDiff, reduceIte, Nat.reduceAdd, Nat.reduceMul, Nat.reduceLeDiff, Nat.reduceLT]
      · replace h := ifF (c := (!v6004)) hb3 h
        try simp only [go_sem, Nat.reduceEqDiff, reduceIte, Nat.reduceAdd, Nat.reduceMul, Nat.reduceLeDiff, Nat.reduceLT]
        refine seq_go ?_
        try simp only [go_sem, Nat.reduceEqDiff, reduceIte, Nat.reduceAdd, Nat.reduceMul, Nat.reduceLeDiff, Nat.reduceLT]
        obtain rfl := Option.some.inj h
        simp only [go_sem, Nat.reduceEqDiff, reduceIte, Nat.reduceAdd, Nat.reduceMul, Nat.reduceLeDiff, Nat.reduceLT]
theorem l_eqDefS_l1_all (n : Nat) : (∀ (a0 : List Def) (a1 : List Def) (p0_0 : Int) (r : Bool), l_eqDefS_l1 n a0 a1 p0_0 = some r → posF Try.prog Try.f192 [1, 1, 0, 1, 0] (.bool r) ⟨[(0, .ro (List.map Def.ds a0)), (1, .ro (List.map Def.ds a1)), (5, .int .i64 p0_0)], [], []⟩) := by
  induction n with
  | zero => exact ((fun _ _ _ _ h => by rw [l_eqDefS_l1] at h; cases h))
  | succ n ih =>
    have ih0 := ih
    · intro a0 a1 p0_0 r h
      rw [l_eqDefS_l1] at h
      refine posF_of rfl rfl ?_
      try simp only [go_sem, Nat.reduceEqDiff, reduceIte, Nat.reduceAdd, Nat.reduceMul, Nat.reduceLeDiff, Nat.reduceLT]
      refine loop_i ?_
      try simp only [go_sem, Nat.reduceEqDiff, reduceIte, Nat.reduceAdd, Nat.reduceMul, Nat.reduceLeDiff, Nat.reduceLT]
      refine cond_i (fun hb2 => ?_) (fun hb2 => ?_)
      · replace h := ifT (c := (decide (p0_0 < ((List.length a0 : Nat) : Int)))) hb2 h
        try simp only [go_sem, Nat.reduceEqDiff, reduceIte, Nat.reduceAdd, Nat.reduceMul, Nat.reduceLeDiff, Nat.reduceLT]
        refine seq_go ?_
        try simp only [go_sem, Nat.reduceEqDiff, reduceIte, Nat.reduceAdd, Nat.reduceMul, Nat.reduceLeDiff, Nat.reduceLT]
        obtain ⟨v7002, hv7002, h⟩ := bindE h
        refine idx_m hv7002 (Def.ds_len _) ?_
        try simp only [go_sem, Nat.reduceEqDiff, reduceIte, Nat.reduceAdd, Nat.reduceMul, Nat.reduceLeDiff, Nat.reduceLT]
        obtain ⟨v7006, hv7006, h⟩ := bindE h
        refine idx_m hv7006 (Def.ds_len _) ?_
        try simp only [go_sem, Nat.reduceEqDiff, reduceIte, Nat.reduceAdd, Nat.reduceMul, Nat.reduceLeDiff, Nat.reduceLT]
        obtain ⟨v7008, hv7008, h⟩ := bindE h
        refine call_i (l_eqDef_ok _ _ _ hv7008) ?_
        try simp only [go_sem, Nat.reduceEqDiff, reduceIte, Nat.reduceAdd, Nat.reduceMul, Nat.reduceLeDiff, Nat.reduceLT]
        refine cond_i (fun hb3 => ?_) (fun hb3 => ?_)
        · replace h := ifT (c := (!v7008)) hb3 h
          try simp only [go_sem, Nat.reduceEqDiff, reduceIte, Nat.reduceAdd, Nat.reduceMul, Nat.reduceLeDiff, Nat.reduceLT]
          obtain rfl := Option.some.inj h
          simp only [go_sem, Nat.reduceEqDiff, reduceIte, Nat.reduceAdd, Nat.reduceMul, Nat.reduceLeDiff, Nat.reduceLT]
        · replace h := ifF (c := (!v7008)) hb3 h
          try simp only [go_sem, Nat.reduceEqDiff, reduceIte, Nat.reduceAdd, Nat.reduceMul, Nat.reduceLeDiff, Nat.reduceLT]
          refine seq_go ?_
          try simp only [go_sem, Nat.reduceEqDiff, reduceIte, Nat.reduceAdd, Nat.reduceMul, Nat.reduceLeDiff, Nat.reduceLT]
          have hj := posF_to rfl rfl (ih0 a0 a1 (IntKind.i64.wrap (p0_0 + 1)) _ h)
          refine lp_to hj (.one ⟨_, .done _, [], [], ?_⟩)
          clear hj
          try simp only [go_sem, Nat.reduceEqDiff, reduceIte, Nat.reduceAdd, Nat.reduceMul, Nat.reduceLeDiff, Nat.reduceLT]
      · replace h := ifF (c := (decide (p0_0 < ((List.length a0 : Nat) : Int)))) hb2 h
        try simp only [go_sem, Nat.reduceEqDiff, reduceIte, Nat.reduceAdd, Nat.reduceMul, Nat.reduceLeDiff, Nat.reduceLT]
        refine seq_go ?_
        try simp only [go_sem, Nat.reduceEqDiff, reduceIte, Nat.reduceAdd, Nat.reduceMul, Nat.reduceLeDiff, Nat.reduceLT]
        obtain rfl := Option.some.inj h
        simp only [go_sem, Nat.reduceEqDiff, reduceIte, Nat.reduceAdd, Nat.reduceMul, Nat.reduceLeDiff, Nat.reduceLT]
theorem l_eqDefS_l1_ok (n : Nat) : (∀ (a0 : List Def) (a1 : List Def) (p0_0 : Int) (r : Bool), l_eqDefS_l1 n a0 a1 p0_0 = some r → posF Try.prog Try.f192 [1, 1, 0, 1, 0] (.bool r) ⟨[(0, .ro (List.map Def.ds a0)), (1, .ro (List.map Def.ds a1)), (5, .int .i64 p0_0)], [], []⟩) := (l_eqDefS_l1_all n)

theorem l_eqDefS_ok (a0 : List Def) (a1 : List Def) (r : Bool) (h : l_eqDefS a0 a1 = some r) : AC Try.prog 192 [.ro (List.map Def.ds a0), .ro (List.map Def.ds a1)] (.bool r) := by
  unfold l_eqDefS at h
  refine ac_fn mixed Try.func192 rfl rfl rfl (by kernel_rfl) (by kernel_rfl) ?_
  try simp only [go_sem, Nat.reduceEqDiff, reduceIte, Nat.reduceAdd, Nat.reduceMul, Nat.reduceLeDiff, Nat.reduceLT]
  refine cond_i (fun hb1 => ?_) (fun hb1 => ?_)
  · replace h := ifT (c := (!decide (((List.length a0 : Nat) : Int) = ((List.length a1 : Nat) : Int)))) hb1 h
    try simp only [go_sem, Nat.reduceEqDiff, reduceIte, Nat.reduceAdd, Nat.reduceMul, Nat.reduceLeDiff, Nat.reduceLT]
    obtain rfl := Option.some.inj h
    simp only [go_sem, Nat.reduceEqDiff, reduceIte, Nat.reduceAdd, Nat.reduceMul, Nat.reduceLeDiff, Nat.reduceLT]
  · replace h := ifF (c := (!decide (((List.length a0 : Nat) : Int) = ((List.length a1 : Nat) : Int)))) hb1 h
    try simp only [go_sem, Nat.reduceEqDiff, reduceIte, Nat.reduceAdd, Nat.reduceMul, Nat.reduceLeDiff, Nat.reduceLT]
    refine seq_go ?_
    try simp only [go_sem, Nat.reduceEqDiff, reduceIte, Nat.reduceAdd, Nat.reduceMul, Nat.reduceLeDiff, Nat.reduceLT]
    have hj := posF_to rfl rfl (l_eqDefS_l1_ok fuel a0 a1 0 _ h)
    refine loop_to hj (.one ⟨_, .done _, [], [], ?_⟩)
    clear hj
    try simp only [go_sem, Nat.reduceEqDiff, reduceIte, Nat.reduceAdd, Nat.reduceMul, Nat.reduceLeDiff, Nat.reduceLT]
theorem l_eqProgram_ok (a0 : TProgram) (a1 : TProgram) (r : Bool) (h : l_eqProgram a0 a1 = some r) : AC Try.prog 114 [.agg (TProgram.avs a0), .agg (TProgram.avs a1)] (.bool r) := by
  unfold l_eqProgram at h
  refine ac_fn mixed Try.func114 rfl rfl rfl (by kernel_rfl) (by kernel_rfl) ?_
  try simp only [go_sem, Nat.reduceEqDiff, reduceIte, Nat.reduceAdd, Nat.reduceMul, Nat.reduceLeDiff, Nat.reduceLT]
  obtain ⟨v2004, hv2004, h⟩ := bindE h
  refine call_i (l_eqDataS_ok _ _ _ hv2004) ?_
  try simp only [go_sem, Nat.reduceEqDiff, reduceIte, Nat.reduceAdd, Nat.reduceMul, Nat.reduceLeDiff, Nat.reduceLT]
  refine cond_i (fun hb1 => ?_) (fun hb1 => ?_)
  · replace h := ifT (c := (!v2004)) hb1 h
    try simp only [go_sem, Nat.reduceEqDiff, reduceIte, Nat.reduceAdd, Nat.reduceMul, Nat.reduceLeDiff, Nat.reduceLT]
    obtain rfl := Option.some.inj h
    simp only [go_sem, Nat.reduceEqDiff, reduceIte, Nat.reduceAdd, Nat.reduceMul, Nat.reduceLeDiff, Nat.reduceLT]
  · replace h := ifF (c := (!v2004)) hb1 h
    try simp only [go_sem, Nat.reduceEqDiff, reduceIte, Nat.reduceAdd, Nat.reduceMul, Nat.reduceLeDiff, Nat.reduceLT]
    refine seq_go ?_
    try simp only [go_sem, Nat.reduceEqDiff, reduceIte, Nat.reduceAdd, Nat.reduceMul, Nat.reduceLeDiff, Nat.reduceLT]
    obtain ⟨v4004, hv4004, h⟩ := bindE h
    refine call_i (l_eqDefS_ok _ _ _ hv4004) ?_
    try simp only [go_sem, Nat.reduceEqDiff, reduceIte, Nat.reduceAdd, Nat.reduceMul, Nat.reduceLeDiff, Nat.reduceLT]
    refine cond_i (fun hb2 => ?_) (fun hb2 => ?_)
    · replace h := ifT (c := (!v4004)) hb2 h
      try simp only [go_sem, Nat.reduceEqDiff, reduceIte, Nat.reduceAdd, Nat.reduceMul, Nat.reduceLeDiff, Nat.reduceLT]
      obtain rfl := Option.some.inj h
      simp only [go_sem, Nat.reduceEqDiff, reduceIte, Nat.reduceAdd, Nat.reduceMul, Nat.reduceLeDiff, Nat.reduceLT]
    · replace h := ifF (c := (!v4004)) hb2 h
      try simp only [go_sem, Nat.reduceEqDiff, reduceIte, Nat.reduceAdd, Nat.reduceMul, Nat.reduceLeDiff, Nat.reduceLT]
      refine seq_go ?_
      try simp only [go_sem, Nat.reduceEqDiff, reduceIte, Nat.reduceAdd, Nat.reduceMul, Nat.reduceLeDiff, Nat.reduceLT]
      obtain rfl := Option.some.inj h
      simp only [go_sem, Nat.reduceEqDiff, reduceIte, Nat.reduceAdd, Nat.reduceMul, Nat.reduceLeDiff, Nat.reduceLT]
theorem l_eqDesk_ok (a0 : Desk) (a1 : Desk) (r : Bool) (h : l_eqDesk a0 a1 = some r) : AC Try.prog 53 [.agg (Desk.avs a0), .agg (Desk.avs a1)] (.bool r) := by
  unfold l_eqDesk at h
  refine ac_fn mixed Try.func53 rfl rfl rfl (by kernel_rfl) (by kernel_rfl) ?_
  try simp only [go_sem, Nat.reduceEqDiff, reduceIte, Nat.reduceAdd, Nat.reduceMul, Nat.reduceLeDiff, Nat.reduceLT]
  refine cond_i (fun hb1 => ?_) (fun hb1 => ?_)
  · replace h := ifT (c := (!(a0.loaded == a1.loaded))) hb1 h
    try simp only [go_sem, Nat.reduceEqDiff, reduceIte, Nat.reduceAdd, Nat.reduceMul, Nat.reduceLeDiff, Nat.reduceLT]
    obtain rfl := Option.some.inj h
    simp only [go_sem, Nat.reduceEqDiff, reduceIte, Nat.reduceAdd, Nat.reduceMul, Nat.reduceLeDiff, Nat.reduceLT]
  · replace h := ifF (c := (!(a0.loaded == a1.loaded))) hb1 h
    try simp only [go_sem, Nat.reduceEqDiff, reduceIte, Nat.reduceAdd, Nat.reduceMul, Nat.reduceLeDiff, Nat.reduceLT]
    refine seq_go ?_
    try simp only [go_sem, Nat.reduceEqDiff, reduceIte, Nat.reduceAdd, Nat.reduceMul, Nat.reduceLeDiff, Nat.reduceLT]
    obtain ⟨v4004, hv4004, h⟩ := bindE h
    refine call_i (l_eqProgram_ok _ _ _ hv4004) ?_
    try simp only [go_sem, Nat.reduceEqDiff, reduceIte, Nat.reduceAdd, Nat.reduceMul, Nat.reduceLeDiff, Nat.reduceLT]
    refine cond_i (fun hb2 => ?_) (fun hb2 => ?_)
    · replace h := ifT (c := (!v4004)) hb2 h
      try simp only [go_sem, Nat.reduceEqDiff, reduceIte, Nat.reduceAdd, Nat.reduceMul, Nat.reduceLeDiff, Nat.reduceLT]
      obtain rfl := Option.some.inj h
      simp only [go_sem, Nat.reduceEqDiff, reduceIte, Nat.reduceAdd, Nat.reduceMul, Nat.reduceLeDiff, Nat.reduceLT]
    · replace h := ifF (c := (!v4004)) hb2 h
      try simp only [go_sem, Nat.reduceEqDiff, reduceIte, Nat.reduceAdd, Nat.reduceMul, Nat.reduceLeDiff, Nat.reduceLT]
      refine seq_go ?_
      try simp only [go_sem, Nat.reduceEqDiff, reduceIte, Nat.reduceAdd, Nat.reduceMul, Nat.reduceLeDiff, Nat.reduceLT]
      obtain ⟨v6004, hv6004, h⟩ := bindE h
      refine call_i (l_eqInt64S_ok _ _ _ hv6004) ?_
      try simp only [go_sem, Nat.reduceEqDiff, reduceIte, Nat.reduceAdd, Nat.reduceMul, Nat.reduceLeDiff, Nat.reduceLT]
      refine cond_i (fun hb3 => ?_) (fun hb3 => ?_)
      · replace h := ifT (c := (!v6004)) hb3 h
        try simp only [go_sem, Nat.reduceEqDiff, reduceIte, Nat.reduceAdd, Nat.reduceMul, Nat.reduceLeDiff, Nat.reduceLT]
        obtain rfl := Option.some.inj h
        simp only [go_sem, Nat.reduceEqDiff, reduceIte, Nat.reduceAdd, Nat.reduceMul, Nat.reduceLeDiff, Nat.reduceLT]
      · replace h := ifF (c := (!v6004)) hb3 h
        try simp only [go_sem, Nat.reduceEqDiff, reduceIte, Nat.reduceAdd, Nat.reduceMul, Nat.reduceLeDiff, Nat.reduceLT]
        refine seq_go ?_
        try simp only [go_sem, Nat.reduceEqDiff, reduceIte, Nat.reduceAdd, Nat.reduceMul, Nat.reduceLeDiff, Nat.reduceLT]
        refine cond_i (fun hb4 => ?_) (fun hb4 => ?_)
        · replace h := ifT (c := (!decide (a0.machines = a1.machines))) hb4 h
          try simp only [go_sem, Nat.reduceEqDiff, reduceIte, Nat.reduceAdd, Nat.reduceMul, Nat.reduceLeDiff, Nat.reduceLT]
          obtain rfl := Option.some.inj h
          simp only [go_sem, Nat.reduceEqDiff, reduceIte, Nat.reduceAdd, Nat.reduceMul, Nat.reduceLeDiff, Nat.reduceLT]
        · replace h := ifF (c := (!decide (a0.machines = a1.machines))) hb4 h
          try simp only [go_sem, Nat.reduceEqDiff, reduceIte, Nat.reduceAdd, Nat.reduceMul, Nat.reduceLeDiff, Nat.reduceLT]
          refine seq_go ?_
          try simp only [go_sem, Nat.reduceEqDiff, reduceIte, Nat.reduceAdd, Nat.reduceMul, Nat.reduceLeDiff, Nat.reduceLT]
          obtain rfl := Option.some.inj h
          simp only [go_sem, Nat.reduceEqDiff, reduceIte, Nat.reduceAdd, Nat.reduceMul, Nat.reduceLeDiff, Nat.reduceLT]
theorem l_markInt64S_l1_all (n : Nat) : (∀ (p0_0 : List Int) (p0_1 : Int) (p0_2 : Int) (z1 : Option Nat) (r : Int × (List Int)), l_markInt64S_l1 n p0_0 p0_1 p0_2 = some r → posG Try.prog Try.f36 [1, 0, 1, 0] (.int .i64 r.1) [(1, ⟨List.map i64D r.2, z1, 0⟩)] [] ⟨[(0, .own 1), (1, .int .i64 p0_1), (5, .int .i64 p0_2)], [(1, some ⟨List.map i64D p0_0, z1, 0⟩)], []⟩) := by
  induction n with
  | zero => exact ((fun _ _ _ _ _ h => by rw [l_markInt64S_l1] at h; cases h))
  | succ n ih =>
    have ih0 := ih
    · intro p0_0 p0_1 p0_2 z1 r h
      rw [l_markInt64S_l1] at h
      refine posG_of rfl rfl ?_
      try simp only [go_sem, Nat.reduceEqDiff, reduceIte, Nat.reduceAdd, Nat.reduceMul, Nat.reduceLeDiff, Nat.reduceLT]
      refine loop_i ?_
      try simp only [go_sem, Nat.reduceEqDiff, reduceIte, Nat.reduceAdd, Nat.reduceMul, Nat.reduceLeDiff, Nat.reduceLT]
      refine cond_i (fun hb1 => ?_) (fun hb1 => ?_)
      · replace h := ifT (c := (decide (p0_2 < ((List.length p0_0 : Nat) : Int)))) hb1 h
        try simp only [go_sem, Nat.reduceEqDiff, reduceIte, Nat.reduceAdd, Nat.reduceMul, Nat.reduceLeDiff, Nat.reduceLT]
        refine seq_go ?_
        try simp only [go_sem, Nat.reduceEqDiff, reduceIte, Nat.reduceAdd, Nat.reduceMul, Nat.reduceLeDiff, Nat.reduceLT]
        obtain ⟨v5003, hv5003, h⟩ := bindE h
        refine idx_m hv5003 rfl ?_
        try simp only [go_sem, Nat.reduceEqDiff, reduceIte, Nat.reduceAdd, Nat.reduceMul, Nat.reduceLeDiff, Nat.reduceLT]
        obtain ⟨v5004_8, hv5004_8, h⟩ := bindE h
        refine opt_i (row_m hv5003) ?_
        try simp only [go_sem, Nat.reduceEqDiff, reduceIte, Nat.reduceAdd, Nat.reduceMul, Nat.reduceLeDiff, Nat.reduceLT]
        refine row_i (List.map i64D v5004_8) (by rw [← set1_some hv5004_8]; simp only [List.map_set, go_sem, slD]) ?_
        try simp only [go_sem, Nat.reduceEqDiff, reduceIte, Nat.reduceAdd, Nat.reduceMul, Nat.reduceLeDiff, Nat.reduceLT]
        refine seq_go ?_
        try simp only [go_sem, Nat.reduceEqDiff, reduceIte, Nat.reduceAdd, Nat.reduceMul, Nat.reduceLeDiff, Nat.reduceLT]
        have hj := posG_to rfl rfl (ih0 v5004_8 (IntKind.i64.wrap (p0_1 + 1)) (IntKind.i64.wrap (p0_2 + 1)) z1 _ h)
        refine lp_to hj (.one ⟨_, .done _, [(1, 1)], [], ?_⟩)
        clear hj
        try simp only [go_sem, Nat.reduceEqDiff, reduceIte, Nat.reduceAdd, Nat.reduceMul, Nat.reduceLeDiff, Nat.reduceLT]
      · replace h := ifF (c := (decide (p0_2 < ((List.length p0_0 : Nat) : Int)))) hb1 h
        try simp only [go_sem, Nat.reduceEqDiff, reduceIte, Nat.reduceAdd, Nat.reduceMul, Nat.reduceLeDiff, Nat.reduceLT]
        refine seq_go ?_
        try simp only [go_sem, Nat.reduceEqDiff, reduceIte, Nat.reduceAdd, Nat.reduceMul, Nat.reduceLeDiff, Nat.reduceLT]
        obtain rfl := Option.some.inj h
        refine ret_i (.done _) [(1, 1)] [] ?_
        simp only [go_sem, Nat.reduceEqDiff, reduceIte, Nat.reduceAdd, Nat.reduceMul, Nat.reduceLeDiff, Nat.reduceLT]
theorem l_markInt64S_l1_ok (n : Nat) : (∀ (p0_0 : List Int) (p0_1 : Int) (p0_2 : Int) (z1 : Option Nat) (r : Int × (List Int)), l_markInt64S_l1 n p0_0 p0_1 p0_2 = some r → posG Try.prog Try.f36 [1, 0, 1, 0] (.int .i64 r.1) [(1, ⟨List.map i64D r.2, z1, 0⟩)] [] ⟨[(0, .own 1), (1, .int .i64 p0_1), (5, .int .i64 p0_2)], [(1, some ⟨List.map i64D p0_0, z1, 0⟩)], []⟩) := (l_markInt64S_l1_all n)

theorem l_markInt64S_ok (a0 : List Int) (a1 : Int) (z1 : Option Nat) (r : Int × (List Int)) (h : l_markInt64S a0 a1 = some r) : AG Try.prog 36 [.own 1, .int .i64 a1] [(1, ⟨List.map i64D a0, z1, 0⟩)] [] (.int .i64 r.1) [(1, ⟨List.map i64D r.2, z1, 0⟩)] [] := by
  unfold l_markInt64S at h
  refine ag_fn mixed Try.func36 rfl rfl rfl (by kernel_rfl) (by kernel_rfl) ?_
  try simp only [go_sem, Nat.reduceEqDiff, reduceIte, Nat.reduceAdd, Nat.reduceMul, Nat.reduceLeDiff, Nat.reduceLT]
  have hj := posG_to rfl rfl (l_markInt64S_l1_ok fuel a0 a1 0 z1 _ h)
  refine loop_to hj (.one ⟨_, .done _, [(1, 1)], [], ?_⟩)
  clear hj
  try simp only [go_sem, Nat.reduceEqDiff, reduceIte, Nat.reduceAdd, Nat.reduceMul, Nat.reduceLeDiff, Nat.reduceLT]
theorem l_markText_l1_all (n : Nat) : (∀ (p0_0 : Int) (p0_1 : ByteArray) (r : ByteArray), l_markText_l1 n p0_0 p0_1 = some r → posF Try.prog Try.f235 [1, 1, 1, 0, 0] (.str r) ⟨[(0, .int .i64 p0_0), (3, .str p0_1)], [], []⟩) := by
  induction n with
  | zero => exact ((fun _ _ _ h => by rw [l_markText_l1] at h; cases h))
  | succ n ih =>
    have ih0 := ih
    · intro p0_0 p0_1 r h
      rw [l_markText_l1] at h
      refine posF_of rfl rfl ?_
      try simp only [go_sem, Nat.reduceEqDiff, reduceIte, Nat.reduceAdd, Nat.reduceMul, Nat.reduceLeDiff, Nat.reduceLT]
      refine loop_i ?_
      try simp only [go_sem, Nat.reduceEqDiff, reduceIte, Nat.reduceAdd, Nat.reduceMul, Nat.reduceLeDiff, Nat.reduceLT]
      refine cond_i (fun hb2 => ?_) (fun hb2 => ?_)
      · replace h := ifT (c := (decide (0 < p0_0))) hb2 h
        try simp only [go_sem, Nat.reduceEqDiff, reduceIte, Nat.reduceAdd, Nat.reduceMul, Nat.reduceLeDiff, Nat.reduceLT]
        refine seq_go ?_
        try simp only [go_sem, Nat.reduceEqDiff, reduceIte, Nat.reduceAdd, Nat.reduceMul, Nat.reduceLeDiff, Nat.reduceLT]
        refine and_i (by decide) ?_
        try simp only [go_sem, Nat.reduceEqDiff, reduceIte, Nat.reduceAdd, Nat.reduceMul, Nat.reduceLeDiff, Nat.reduceLT]
        obtain ⟨v6005, hv6005, h⟩ := bindE h
        obtain ⟨hv6005a, hv6005b⟩ := strN_some hv6005
        refine str_i (ns := [(IntKind.u8.wrap (IntKind.i64.wrap (48 + (Int.tmod p0_0 10))))]) hv6005a ?_
        rw [hv6005b]
        try simp only [go_sem, Nat.reduceEqDiff, reduceIte, Nat.reduceAdd, Nat.reduceMul, Nat.reduceLeDiff, Nat.reduceLT]
        obtain ⟨v6007, hv6007, h⟩ := bindE h
        obtain ⟨hv6007a, hv6007b⟩ := sapp_some hv6007
        refine and_i hv6007a ?_
        rw [hv6007b]
        try simp only [go_sem, Nat.reduceEqDiff, reduceIte, Nat.reduceAdd, Nat.reduceMul, Nat.reduceLeDiff, Nat.reduceLT]
        refine and_i (by decide) ?_
        try simp only [go_sem, Nat.reduceEqDiff, reduceIte, Nat.reduceAdd, Nat.reduceMul, Nat.reduceLeDiff, Nat.reduceLT]
        have hj := posF_to rfl rfl (ih0 (IntKind.i64.wrap (Int.tdiv p0_0 10)) v6007 _ h)
        refine lp_to hj (.one ⟨_, .done _, [], [], ?_⟩)
        clear hj
        try simp only [go_sem, Nat.reduceEqDiff, reduceIte, Nat.reduceAdd, Nat.reduceMul, Nat.reduceLeDiff, Nat.reduceLT]
      · replace h := ifF (c := (decide (0 < p0_0))) hb2 h
        try simp only [go_sem, Nat.reduceEqDiff, reduceIte, Nat.reduceAdd, Nat.reduceMul, Nat.reduceLeDiff, Nat.reduceLT]
        refine seq_go ?_
        try simp only [go_sem, Nat.reduceEqDiff, reduceIte, Nat.reduceAdd, Nat.reduceMul, Nat.reduceLeDiff, Nat.reduceLT]
        obtain ⟨v8001, hv8001, h⟩ := bindE h
        obtain ⟨hv8001a, hv8001b⟩ := sapp_some hv8001
        refine and_i hv8001a ?_
        rw [hv8001b]
        try simp only [go_sem, Nat.reduceEqDiff, reduceIte, Nat.reduceAdd, Nat.reduceMul, Nat.reduceLeDiff, Nat.reduceLT]
        obtain rfl := Option.some.inj h
        simp only [go_sem, Nat.reduceEqDiff, reduceIte, Nat.reduceAdd, Nat.reduceMul, Nat.reduceLeDiff, Nat.reduceLT]
theorem l_markText_l1_ok (n : Nat) : (∀ (p0_0 : Int) (p0_1 : ByteArray) (r : ByteArray), l_markText_l1 n p0_0 p0_1 = some r → posF Try.prog Try.f235 [1, 1, 1, 0, 0] (.str r) ⟨[(0, .int .i64 p0_0), (3, .str p0_1)], [], []⟩) := (l_markText_l1_all n)

theorem l_markText_ok (a0 : Int) (r : ByteArray) (h : l_markText a0 = some r) : AC Try.prog 235 [.int .i64 a0] (.str r) := by
  unfold l_markText at h
  refine ac_fn mixed Try.func235 rfl rfl rfl (by kernel_rfl) (by kernel_rfl) ?_
  try simp only [go_sem, Nat.reduceEqDiff, reduceIte, Nat.reduceAdd, Nat.reduceMul, Nat.reduceLeDiff, Nat.reduceLT]
  refine cond_i (fun hb1 => ?_) (fun hb1 => ?_)
  · replace h := ifT (c := (decide (a0 ≤ 0))) hb1 h
    try simp only [go_sem, Nat.reduceEqDiff, reduceIte, Nat.reduceAdd, Nat.reduceMul, Nat.reduceLeDiff, Nat.reduceLT]
    obtain rfl := Option.some.inj h
    simp only [go_sem, Nat.reduceEqDiff, reduceIte, Nat.reduceAdd, Nat.reduceMul, Nat.reduceLeDiff, Nat.reduceLT]
  · replace h := ifF (c := (decide (a0 ≤ 0))) hb1 h
    try simp only [go_sem, Nat.reduceEqDiff, reduceIte, Nat.reduceAdd, Nat.reduceMul, Nat.reduceLeDiff, Nat.reduceLT]
    refine seq_go ?_
    try simp only [go_sem, Nat.reduceEqDiff, reduceIte, Nat.reduceAdd, Nat.reduceMul, Nat.reduceLeDiff, Nat.reduceLT]
    have hj := posF_to rfl rfl (l_markText_l1_ok fuel a0 (ByteArray.mk #[]) _ h)
    refine loop_to hj (.one ⟨_, .done _, [], [], ?_⟩)
    clear hj
    try simp only [go_sem, Nat.reduceEqDiff, reduceIte, Nat.reduceAdd, Nat.reduceMul, Nat.reduceLeDiff, Nat.reduceLT]
theorem l_markTypeS_all (n : Nat) : (∀ (a0 : List TType) (a1 : Int) (z1 : Option Nat) (r : Int × (List TType)), l_markTypeS n a0 a1 = some r → AG Try.prog 237 [.own 1, .int .i64 a1] [(1, ⟨List.map TType.ds a0, z1, 0⟩)] [] (.int .i64 r.1) [(1, ⟨List.map TType.ds r.2, z1, 0⟩)] []) ∧
    (∀ (p0_0 : List TType) (p0_1 : Int) (p0_2 : Int) (z1 : Option Nat) (r : Int × (List TType)), l_markTypeS_l1 n p0_0 p0_1 p0_2 = some r → posG Try.prog Try.f237 [1, 0, 1, 0] (.int .i64 r.1) [(1, ⟨List.map TType.ds r.2, z1, 0⟩)] [] ⟨[(0, .own 1), (1, .int .i64 p0_1), (5, .int .i64 p0_2)], [(1, some ⟨List.map TType.ds p0_0, z1, 0⟩)], []⟩) := by
  induction n with
  | zero => exact ⟨(fun _ _ _ _ h => by rw [l_markTypeS] at h; cases h), (fun _ _ _ _ _ h => by rw [l_markTypeS_l1] at h; cases h)⟩
  | succ n ih =>
    obtain ⟨ih0, ih1⟩ := ih
    refine ⟨?_, ?_⟩
    · intro a0 a1 z1 r h
      rw [l_markTypeS] at h
      refine ag_fn mixed Try.func237 rfl rfl rfl (by kernel_rfl) (by kernel_rfl) ?_
      try simp only [go_sem, Nat.reduceEqDiff, reduceIte, Nat.reduceAdd, Nat.reduceMul, Nat.reduceLeDiff, Nat.reduceLT]
      have hj := posG_to rfl rfl (ih1 a0 a1 0 z1 _ h)
      refine loop_to hj (.one ⟨_, .done _, [(1, 1)], [], ?_⟩)
      clear hj
      try simp only [go_sem, Nat.reduceEqDiff, reduceIte, Nat.reduceAdd, Nat.reduceMul, Nat.reduceLeDiff, Nat.reduceLT]
    · intro p0_0 p0_1 p0_2 z1 r h
      rw [l_markTypeS_l1] at h
      refine posG_of rfl rfl ?_
      try simp only [go_sem, Nat.reduceEqDiff, reduceIte, Nat.reduceAdd, Nat.reduceMul, Nat.reduceLeDiff, Nat.reduceLT]
      refine loop_i ?_
      try simp only [go_sem, Nat.reduceEqDiff, reduceIte, Nat.reduceAdd, Nat.reduceMul, Nat.reduceLeDiff, Nat.reduceLT]
      refine cond_i (fun hb1 => ?_) (fun hb1 => ?_)
      · replace h := ifT (c := (decide (p0_2 < ((List.length p0_0 : Nat) : Int)))) hb1 h
        try simp only [go_sem, Nat.reduceEqDiff, reduceIte, Nat.reduceAdd, Nat.reduceMul, Nat.reduceLeDiff, Nat.reduceLT]
        refine seq_go ?_
        try simp only [go_sem, Nat.reduceEqDiff, reduceIte, Nat.reduceAdd, Nat.reduceMul, Nat.reduceLeDiff, Nat.reduceLT]
        obtain ⟨v5003, hv5003, h⟩ := bindE h
        refine idx_m hv5003 (TType.ds_len _) ?_
        try simp only [go_sem, Nat.reduceEqDiff, reduceIte, Nat.reduceAdd, Nat.reduceMul, Nat.reduceLeDiff, Nat.reduceLT]
        obtain ⟨v5005_22, hv5005_22, h⟩ := bindE h
        refine opt_i (row_m hv5003) ?_
        try simp only [go_sem, Nat.reduceEqDiff, reduceIte, Nat.reduceAdd, Nat.reduceMul, Nat.reduceLeDiff, Nat.reduceLT]
        refine row_i (List.map TType.ds v5005_22) (by rw [← set1_some hv5005_22]; simp only [List.map_set, go_sem, TType.ds_eq]) ?_
        try simp only [go_sem, Nat.reduceEqDiff, reduceIte, Nat.reduceAdd, Nat.reduceMul, Nat.reduceLeDiff, Nat.reduceLT]
        obtain ⟨v7003, hv7003, h⟩ := bindE h
        refine call_i (l_markText_ok _ _ hv7003) ?_
        try simp only [go_sem, Nat.reduceEqDiff, reduceIte, Nat.reduceAdd, Nat.reduceMul, Nat.reduceLeDiff, Nat.reduceLT]
        obtain ⟨v7004, hv7004, h⟩ := bindE h
        refine idx_m hv7004 (TType.ds_len _) ?_
        try simp only [go_sem, Nat.reduceEqDiff, reduceIte, Nat.reduceAdd, Nat.reduceMul, Nat.reduceLeDiff, Nat.reduceLT]
        obtain ⟨v7006_23, hv7006_23, h⟩ := bindE h
        refine opt_i (row_m hv7004) ?_
        try simp only [go_sem, Nat.reduceEqDiff, reduceIte, Nat.reduceAdd, Nat.reduceMul, Nat.reduceLeDiff, Nat.reduceLT]
        refine row_i (List.map TType.ds v7006_23) (by rw [← set1_some hv7006_23]; simp only [List.map_set, go_sem, TType.ds_eq]) ?_
        try simp only [go_sem, Nat.reduceEqDiff, reduceIte, Nat.reduceAdd, Nat.reduceMul, Nat.reduceLeDiff, Nat.reduceLT]
        obtain ⟨v9002, hv9002, h⟩ := bindE h
        refine idx_m hv9002 (TType.ds_len _) ?_
        try simp only [go_sem, Nat.reduceEqDiff, reduceIte, Nat.reduceAdd, Nat.reduceMul, Nat.reduceLeDiff, Nat.reduceLT]
        refine opt_i (row_m hv9002) ?_
        try simp only [go_sem, Nat.reduceEqDiff, reduceIte, Nat.reduceAdd, Nat.reduceMul, Nat.reduceLeDiff, Nat.reduceLT]
        obtain ⟨v9006, hv9006, h⟩ := bindE h
        obtain ⟨v9006_24, hv9006_24, h⟩ := bindE h
        refine call_g ⟨[(3000144096, .sub 1 0 [(3, Int.toNat p0_2, 2)], none)], [(1, 3000144096)], [], [], [], true⟩ (by kernel_rfl) (ih0 _ _ none _ hv9006) (by kernel_rfl) ?_
        try simp only [go_sem, Nat.reduceEqDiff, reduceIte, Nat.reduceAdd, Nat.reduceMul, Nat.reduceLeDiff, Nat.reduceLT]
        refine opt_i (getP_1 (r := List.map TType.ds v9002.kids) (row_m hv9002) (TType.ds_len _) (by simp only [go_sem, TType.ds_eq])) ?_
        try simp only [go_sem, Nat.reduceEqDiff, reduceIte, Nat.reduceAdd, Nat.reduceMul, Nat.reduceLeDiff, Nat.reduceLT]
        refine row_i ((List.map TType.ds v7006_23).set (Int.toNat p0_2) [.int .i64 v9002.kind, .str v9002.name, .gone]) ((putR_1 (row_m hv9002) (d' := .sl (List.map TType.ds v9002.kids)) (by simp only [go_sem, TType.ds_eq])).trans (by simp only [go_sem, TType.ds_eq])) ?_
        try simp only [go_sem, Nat.reduceEqDiff, reduceIte, Nat.reduceAdd, Nat.reduceMul, Nat.reduceLeDiff, Nat.reduceLT]
        refine and_i (getC_1 (set_at (row_m hv9002)) rfl rfl) ?_
        try simp only [go_sem, Nat.reduceEqDiff, reduceIte, Nat.reduceAdd, Nat.reduceMul, Nat.reduceLeDiff, Nat.reduceLT]
        refine row_i (List.map TType.ds v9006_24) (((putR_1 (set_at (row_m hv9002)) (d' := .gone) rfl).trans (List.set_set ..)).trans (by rw [← set1_some hv9006_24]; simp only [List.map_set, go_sem, TType.ds_eq])) ?_
        try simp only [go_sem, Nat.reduceEqDiff, reduceIte, Nat.reduceAdd, Nat.reduceMul, Nat.reduceLeDiff, Nat.reduceLT]
        refine seq_go ?_
        try simp only [go_sem, Nat.reduceEqDiff, reduceIte, Nat.reduceAdd, Nat.reduceMul, Nat.reduceLeDiff, Nat.reduceLT]
        have hj := posG_to rfl rfl (ih1 v9006_24 v9006.1 (IntKind.i64.wrap (p0_2 + 1)) z1 _ h)
        refine lp_to hj (.one ⟨_, .done _, [(1, 1)], [], ?_⟩)
        clear hj
        try simp only [go_sem, Nat.reduceEqDiff, reduceIte, Nat.reduceAdd, Nat.reduceMul, Nat.reduceLeDiff, Nat.reduceLT]
      · replace h := ifF (c := (decide (p0_2 < ((List.length p0_0 : Nat) : Int)))) hb1 h
        try simp only [go_sem, Nat.reduceEqDiff, reduceIte, Nat.reduceAdd, Nat.reduceMul, Nat.reduceLeDiff, Nat.reduceLT]
        refine seq_go ?_
        try simp only [go_sem, Nat.reduceEqDiff, reduceIte, Nat.reduceAdd, Nat.reduceMul, Nat.reduceLeDiff, Nat.reduceLT]
        obtain rfl := Option.some.inj h
        refine ret_i (.done _) [(1, 1)] [] ?_
        simp only [go_sem, Nat.reduceEqDiff, reduceIte, Nat.reduceAdd, Nat.reduceMul, Nat.reduceLeDiff, Nat.reduceLT]
theorem l_markTypeS_ok (n : Nat) : (∀ (a0 : List TType) (a1 : Int) (z1 : Option Nat) (r : Int × (List TType)), l_markTypeS n a0 a1 = some r → AG Try.prog 237 [.own 1, .int .i64 a1] [(1, ⟨List.map TType.ds a0, z1, 0⟩)] [] (.int .i64 r.1) [(1, ⟨List.map TType.ds r.2, z1, 0⟩)] []) := (l_markTypeS_all n).1
theorem l_markTypeS_l1_ok (n : Nat) : (∀ (p0_0 : List TType) (p0_1 : Int) (p0_2 : Int) (z1 : Option Nat) (r : Int × (List TType)), l_markTypeS_l1 n p0_0 p0_1 p0_2 = some r → posG Try.prog Try.f237 [1, 0, 1, 0] (.int .i64 r.1) [(1, ⟨List.map TType.ds r.2, z1, 0⟩)] [] ⟨[(0, .own 1), (1, .int .i64 p0_1), (5, .int .i64 p0_2)], [(1, some ⟨List.map TType.ds p0_0, z1, 0⟩)], []⟩) := (l_markTypeS_all n).2

theorem l_markConstructorS_l1_all (n : Nat) : (∀ (p0_0 : List Constructor) (p0_1 : Int) (p0_2 : Int) (z1 : Option Nat) (r : Int × (List Constructor)), l_markConstructorS_l1 n p0_0 p0_1 p0_2 = some r → posG Try.prog Try.f236 [1, 0, 1, 0] (.int .i64 r.1) [(1, ⟨List.map Constructor.ds r.2, z1, 0⟩)] [] ⟨[(0, .own 1), (1, .int .i64 p0_1), (5, .int .i64 p0_2)], [(1, some ⟨List.map Constructor.ds p0_0, z1, 0⟩)], []⟩) := by
  induction n with
  | zero => exact ((fun _ _ _ _ _ h => by rw [l_markConstructorS_l1] at h; cases h))
  | succ n ih =>
    have ih0 := ih
    · intro p0_0 p0_1 p0_2 z1 r h
      rw [l_markConstructorS_l1] at h
      refine posG_of rfl rfl ?_
      try simp only [go_sem, Nat.reduceEqDiff, reduceIte, Nat.reduceAdd, Nat.reduceMul, Nat.reduceLeDiff, Nat.reduceLT]
      refine loop_i ?_
      try simp only [go_sem, Nat.reduceEqDiff, reduceIte, Nat.reduceAdd, Nat.reduceMul, Nat.reduceLeDiff, Nat.reduceLT]
      refine cond_i (fun hb1 => ?_) (fun hb1 => ?_)
      · replace h := ifT (c := (decide (p0_2 < ((List.length p0_0 : Nat) : Int)))) hb1 h
        try simp only [go_sem, Nat.reduceEqDiff, reduceIte, Nat.reduceAdd, Nat.reduceMul, Nat.reduceLeDiff, Nat.reduceLT]
        refine seq_go ?_
        try simp only [go_sem, Nat.reduceEqDiff, reduceIte, Nat.reduceAdd, Nat.reduceMul, Nat.reduceLeDiff, Nat.reduceLT]
        obtain ⟨v5003, hv5003, h⟩ := bindE h
        refine call_i (l_markText_ok _ _ hv5003) ?_
        try simp only [go_sem, Nat.reduceEqDiff, reduceIte, Nat.reduceAdd, Nat.reduceMul, Nat.reduceLeDiff, Nat.reduceLT]
        obtain ⟨v5004, hv5004, h⟩ := bindE h
        refine idx_m hv5004 (Constructor.ds_len _) ?_
        try simp only [go_sem, Nat.reduceEqDiff, reduceIte, Nat.reduceAdd, Nat.reduceMul, Nat.reduceLeDiff, Nat.reduceLT]
        obtain ⟨v5006_15, hv5006_15, h⟩ := bindE h
        refine opt_i (row_m hv5004) ?_
        try simp only [go_sem, Nat.reduceEqDiff, reduceIte, Nat.reduceAdd, Nat.reduceMul, Nat.reduceLeDiff, Nat.reduceLT]
        refine row_i (List.map Constructor.ds v5006_15) (by rw [← set1_some hv5006_15]; simp only [List.map_set, go_sem, Constructor.ds_eq]) ?_
        try simp only [go_sem, Nat.reduceEqDiff, reduceIte, Nat.reduceAdd, Nat.reduceMul, Nat.reduceLeDiff, Nat.reduceLT]
        obtain ⟨v7002, hv7002, h⟩ := bindE h
        refine idx_m hv7002 (Constructor.ds_len _) ?_
        try simp only [go_sem, Nat.reduceEqDiff, reduceIte, Nat.reduceAdd, Nat.reduceMul, Nat.reduceLeDiff, Nat.reduceLT]
        refine opt_i (row_m hv7002) ?_
        try simp only [go_sem, Nat.reduceEqDiff, reduceIte, Nat.reduceAdd, Nat.reduceMul, Nat.reduceLeDiff, Nat.reduceLT]
        obtain ⟨v7006, hv7006, h⟩ := bindE h
        obtain ⟨v7006_16, hv7006_16, h⟩ := bindE h
        refine call_g ⟨[(3000112096, .sub 1 0 [(2, Int.toNat p0_2, 1)], none)], [(1, 3000112096)], [], [], [], true⟩ (by kernel_rfl) (l_markTypeS_ok fuel _ _ none _ hv7006) (by kernel_rfl) ?_
        try simp only [go_sem, Nat.reduceEqDiff, reduceIte, Nat.reduceAdd, Nat.reduceMul, Nat.reduceLeDiff, Nat.reduceLT]
        refine opt_i (getP_1 (r := List.map TType.ds v7002.fields) (row_m hv7002) (Constructor.ds_len _) (by simp only [go_sem, Constructor.ds_eq])) ?_
        try simp only [go_sem, Nat.reduceEqDiff, reduceIte, Nat.reduceAdd, Nat.reduceMul, Nat.reduceLeDiff, Nat.reduceLT]
        refine row_i ((List.map Constructor.ds v5006_15).set (Int.toNat p0_2) [.str v7002.name, .gone]) ((putR_1 (row_m hv7002) (d' := .sl (List.map TType.ds v7002.fields)) (by simp only [go_sem, Constructor.ds_eq])).trans (by simp only [go_sem, Constructor.ds_eq])) ?_
        try simp only [go_sem, Nat.reduceEqDiff, reduceIte, Nat.reduceAdd, Nat.reduceMul, Nat.reduceLeDiff, Nat.reduceLT]
        refine and_i (getC_1 (set_at (row_m hv7002)) rfl rfl) ?_
        try simp only [go_sem, Nat.reduceEqDiff, reduceIte, Nat.reduceAdd, Nat.reduceMul, Nat.reduceLeDiff, Nat.reduceLT]
        refine row_i (List.map Constructor.ds v7006_16) (((putR_1 (set_at (row_m hv7002)) (d' := .gone) rfl).trans (List.set_set ..)).trans (by rw [← set1_some hv7006_16]; simp only [List.map_set, go_sem, Constructor.ds_eq])) ?_
        try simp only [go_sem, Nat.reduceEqDiff, reduceIte, Nat.reduceAdd, Nat.reduceMul, Nat.reduceLeDiff, Nat.reduceLT]
        refine seq_go ?_
        try simp only [go_sem, Nat.reduceEqDiff, reduceIte, Nat.reduceAdd, Nat.reduceMul, Nat.reduceLeDiff, Nat.reduceLT]
        have hj := posG_to rfl rfl (ih0 v7006_16 v7006.1 (IntKind.i64.wrap (p0_2 + 1)) z1 _ h)
        refine lp_to hj (.one ⟨_, .done _, [(1, 1)], [], ?_⟩)
        clear hj
        try simp only [go_sem, Nat.reduceEqDiff, reduceIte, Nat.reduceAdd, Nat.reduceMul, Nat.reduceLeDiff, Nat.reduceLT]
      · replace h := ifF (c := (decide (p0_2 < ((List.length p0_0 : Nat) : Int)))) hb1 h
        try simp only [go_sem, Nat.reduceEqDiff, reduceIte, Nat.reduceAdd, Nat.reduceMul, Nat.reduceLeDiff, Nat.reduceLT]
        refine seq_go ?_
        try simp only [go_sem, Nat.reduceEqDiff, reduceIte, Nat.reduceAdd, Nat.reduceMul, Nat.reduceLeDiff, Nat.reduceLT]
        obtain rfl := Option.some.inj h
        refine ret_i (.done _) [(1, 1)] [] ?_
        simp only [go_sem, Nat.reduceEqDiff, reduceIte, Nat.reduceAdd, Nat.reduceMul, Nat.reduceLeDiff, Nat.reduceLT]
theorem l_markConstructorS_l1_ok (n : Nat) : (∀ (p0_0 : List Constructor) (p0_1 : Int) (p0_2 : Int) (z1 : Option Nat) (r : Int × (List Constructor)), l_markConstructorS_l1 n p0_0 p0_1 p0_2 = some r → posG Try.prog Try.f236 [1, 0, 1, 0] (.int .i64 r.1) [(1, ⟨List.map Constructor.ds r.2, z1, 0⟩)] [] ⟨[(0, .own 1), (1, .int .i64 p0_1), (5, .int .i64 p0_2)], [(1, some ⟨List.map Constructor.ds p0_0, z1, 0⟩)], []⟩) := (l_markConstructorS_l1_all n)

theorem l_markConstructorS_ok (a0 : List Constructor) (a1 : Int) (z1 : Option Nat) (r : Int × (List Constructor)) (h : l_markConstructorS a0 a1 = some r) : AG Try.prog 236 [.own 1, .int .i64 a1] [(1, ⟨List.map Constructor.ds a0, z1, 0⟩)] [] (.int .i64 r.1) [(1, ⟨List.map Constructor.ds r.2, z1, 0⟩)] [] := by
  unfold l_markConstructorS at h
  refine ag_fn mixed Try.func236 rfl rfl rfl (by kernel_rfl) (by kernel_rfl) ?_
  try simp only [go_sem, Nat.reduceEqDiff, reduceIte, Nat.reduceAdd, Nat.reduceMul, Nat.reduceLeDiff, Nat.reduceLT]
  have hj := posG_to rfl rfl (l_markConstructorS_l1_ok fuel a0 a1 0 z1 _ h)
  refine loop_to hj (.one ⟨_, .done _, [(1, 1)], [], ?_⟩)
  clear hj
  try simp only [go_sem, Nat.reduceEqDiff, reduceIte, Nat.reduceAdd, Nat.reduceMul, Nat.reduceLeDiff, Nat.reduceLT]
theorem l_markDataS_l1_all (n : Nat) : (∀ (p0_0 : List Data) (p0_1 : Int) (p0_2 : Int) (z1 : Option Nat) (r : Int × (List Data)), l_markDataS_l1 n p0_0 p0_1 p0_2 = some r → posG Try.prog Try.f193 [1, 0, 1, 0] (.int .i64 r.1) [(1, ⟨List.map Data.ds r.2, z1, 0⟩)] [] ⟨[(0, .own 1), (1, .int .i64 p0_1), (5, .int .i64 p0_2)], [(1, some ⟨List.map Data.ds p0_0, z1, 0⟩)], []⟩) := by
  induction n with
  | zero => exact ((fun _ _ _ _ _ h => by rw [l_markDataS_l1] at h; cases h))
  | succ n ih =>
    have ih0 := ih
    · intro p0_0 p0_1 p0_2 z1 r h
      rw [l_markDataS_l1] at h
      refine posG_of rfl rfl ?_
      try simp only [go_sem, Nat.reduceEqDiff, reduceIte, Nat.reduceAdd, Nat.reduceMul, Nat.reduceLeDiff, Nat.reduceLT]
      refine loop_i ?_
      try simp only [go_sem, Nat.reduceEqDiff, reduceIte, Nat.reduceAdd, Nat.reduceMul, Nat.reduceLeDiff, Nat.reduceLT]
      refine cond_i (fun hb1 => ?_) (fun hb1 => ?_)
      · replace h := ifT (c := (decide (p0_2 < ((List.length p0_0 : Nat) : Int)))) hb1 h
        try simp only [go_sem, Nat.reduceEqDiff, reduceIte, Nat.reduceAdd, Nat.reduceMul, Nat.reduceLeDiff, Nat.reduceLT]
        refine seq_go ?_
        try simp only [go_sem, Nat.reduceEqDiff, reduceIte, Nat.reduceAdd, Nat.reduceMul, Nat.reduceLeDiff, Nat.reduceLT]
        obtain ⟨v5003, hv5003, h⟩ := bindE h
        refine call_i (l_markText_ok _ _ hv5003) ?_
        try simp only [go_sem, Nat.reduceEqDiff, reduceIte, Nat.reduceAdd, Nat.reduceMul, Nat.reduceLeDiff, Nat.reduceLT]
        obtain ⟨v5004, hv5004, h⟩ := bindE h
        refine idx_m hv5004 (Data.ds_len _) ?_
        try simp only [go_sem, Nat.reduceEqDiff, reduceIte, Nat.reduceAdd, Nat.reduceMul, Nat.reduceLeDiff, Nat.reduceLT]
        obtain ⟨v5006_15, hv5006_15, h⟩ := bindE h
        refine opt_i (row_m hv5004) ?_
        try simp only [go_sem, Nat.reduceEqDiff, reduceIte, Nat.reduceAdd, Nat.reduceMul, Nat.reduceLeDiff, Nat.reduceLT]
        refine row_i (List.map Data.ds v5006_15) (by rw [← set1_some hv5006_15]; simp only [List.map_set, go_sem, Data.ds_eq]) ?_
        try simp only [go_sem, Nat.reduceEqDiff, reduceIte, Nat.reduceAdd, Nat.reduceMul, Nat.reduceLeDiff, Nat.reduceLT]
        obtain ⟨v7002, hv7002, h⟩ := bindE h
        refine idx_m hv7002 (Data.ds_len _) ?_
        try simp only [go_sem, Nat.reduceEqDiff, reduceIte, Nat.reduceAdd, Nat.reduceMul, Nat.reduceLeDiff, Nat.reduceLT]
        refine opt_i (row_m hv7002) ?_
        try simp only [go_sem, Nat.reduceEqDiff, reduceIte, Nat.reduceAdd, Nat.reduceMul, Nat.reduceLeDiff, Nat.reduceLT]
        obtain ⟨v7006, hv7006, h⟩ := bindE h
        obtain ⟨v7006_16, hv7006_16, h⟩ := bindE h
        refine call_g ⟨[(3000112096, .sub 1 0 [(2, Int.toNat p0_2, 1)], none)], [(1, 3000112096)], [], [], [], true⟩ (by kernel_rfl) (l_markConstructorS_ok _ _ none _ hv7006) (by kernel_rfl) ?_
        try simp only [go_sem, Nat.reduceEqDiff, reduceIte, Nat.reduceAdd, Nat.reduceMul, Nat.reduceLeDiff, Nat.reduceLT]
        refine opt_i (getP_1 (r := List.map Constructor.ds v7002.cons) (row_m hv7002) (Data.ds_len _) (by simp only [go_sem, Data.ds_eq])) ?_
        try simp only [go_sem, Nat.reduceEqDiff, reduceIte, Nat.reduceAdd, Nat.reduceMul, Nat.reduceLeDiff, Nat.reduceLT]
        refine row_i ((List.map Data.ds v5006_15).set (Int.toNat p0_2) [.str v7002.name, .gone]) ((putR_1 (row_m hv7002) (d' := .sl (List.map Constructor.ds v7002.cons)) (by simp only [go_sem, Data.ds_eq])).trans (by simp only [go_sem, Data.ds_eq])) ?_
        try simp only [go_sem, Nat.reduceEqDiff, reduceIte, Nat.reduceAdd, Nat.reduceMul, Nat.reduceLeDiff, Nat.reduceLT]
        refine and_i (getC_1 (set_at (row_m hv7002)) rfl rfl) ?_
        try simp only [go_sem, Nat.reduceEqDiff, reduceIte, Nat.reduceAdd, Nat.reduceMul, Nat.reduceLeDiff, Nat.reduceLT]
        refine row_i (List.map Data.ds v7006_16) (((putR_1 (set_at (row_m hv7002)) (d' := .gone) rfl).trans (List.set_set ..)).trans (by rw [← set1_some hv7006_16]; simp only [List.map_set, go_sem, Data.ds_eq])) ?_
        try simp only [go_sem, Nat.reduceEqDiff, reduceIte, Nat.reduceAdd, Nat.reduceMul, Nat.reduceLeDiff, Nat.reduceLT]
        refine seq_go ?_
        try simp only [go_sem, Nat.reduceEqDiff, reduceIte, Nat.reduceAdd, Nat.reduceMul, Nat.reduceLeDiff, Nat.reduceLT]
        have hj := posG_to rfl rfl (ih0 v7006_16 v7006.1 (IntKind.i64.wrap (p0_2 + 1)) z1 _ h)
        refine lp_to hj (.one ⟨_, .done _, [(1, 1)], [], ?_⟩)
        clear hj
        try simp only [go_sem, Nat.reduceEqDiff, reduceIte, Nat.reduceAdd, Nat.reduceMul, Nat.reduceLeDiff, Nat.reduceLT]
      · replace h := ifF (c := (decide (p0_2 < ((List.length p0_0 : Nat) : Int)))) hb1 h
        try simp only [go_sem, Nat.reduceEqDiff, reduceIte, Nat.reduceAdd, Nat.reduceMul, Nat.reduceLeDiff, Nat.reduceLT]
        refine seq_go ?_
        try simp only [go_sem, Nat.reduceEqDiff, reduceIte, Nat.reduceAdd, Nat.reduceMul, Nat.reduceLeDiff, Nat.reduceLT]
        obtain rfl := Option.some.inj h
        refine ret_i (.done _) [(1, 1)] [] ?_
        simp only [go_sem, Nat.reduceEqDiff, reduceIte, Nat.reduceAdd, Nat.reduceMul, Nat.reduceLeDiff, Nat.reduceLT]
theorem l_markDataS_l1_ok (n : Nat) : (∀ (p0_0 : List Data) (p0_1 : Int) (p0_2 : Int) (z1 : Option Nat) (r : Int × (List Data)), l_markDataS_l1 n p0_0 p0_1 p0_2 = some r → posG Try.prog Try.f193 [1, 0, 1, 0] (.int .i64 r.1) [(1, ⟨List.map Data.ds r.2, z1, 0⟩)] [] ⟨[(0, .own 1), (1, .int .i64 p0_1), (5, .int .i64 p0_2)], [(1, some ⟨List.map Data.ds p0_0, z1, 0⟩)], []⟩) := (l_markDataS_l1_all n)

theorem l_markDataS_ok (a0 : List Data) (a1 : Int) (z1 : Option Nat) (r : Int × (List Data)) (h : l_markDataS a0 a1 = some r) : AG Try.prog 193 [.own 1, .int .i64 a1] [(1, ⟨List.map Data.ds a0, z1, 0⟩)] [] (.int .i64 r.1) [(1, ⟨List.map Data.ds r.2, z1, 0⟩)] [] := by
  unfold l_markDataS at h
  refine ag_fn mixed Try.func193 rfl rfl rfl (by kernel_rfl) (by kernel_rfl) ?_
  try simp only [go_sem, Nat.reduceEqDiff, reduceIte, Nat.reduceAdd, Nat.reduceMul, Nat.reduceLeDiff, Nat.reduceLT]
  have hj := posG_to rfl rfl (l_markDataS_l1_ok fuel a0 a1 0 z1 _ h)
  refine loop_to hj (.one ⟨_, .done _, [(1, 1)], [], ?_⟩)
  clear hj
  try simp only [go_sem, Nat.reduceEqDiff, reduceIte, Nat.reduceAdd, Nat.reduceMul, Nat.reduceLeDiff, Nat.reduceLT]
theorem l_markStringS_l1_all (n : Nat) : (∀ (p0_0 : List ByteArray) (p0_1 : Int) (p0_2 : Int) (z1 : Option Nat) (r : Int × (List ByteArray)), l_markStringS_l1 n p0_0 p0_1 p0_2 = some r → posG Try.prog Try.f238 [1, 0, 1, 0] (.int .i64 r.1) [(1, ⟨List.map strD r.2, z1, 0⟩)] [] ⟨[(0, .own 1), (1, .int .i64 p0_1), (5, .int .i64 p0_2)], [(1, some ⟨List.map strD p0_0, z1, 0⟩)], []⟩) := by
  induction n with
  | zero => exact ((fun _ _ _ _ _ h => by rw [l_markStringS_l1] at h; cases h))
  | succ n ih =>
    have ih0 := ih
    · intro p0_0 p0_1 p0_2 z1 r h
      rw [l_markStringS_l1] at h
      refine posG_of rfl rfl ?_
      try simp only [go_sem, Nat.reduceEqDiff, reduceIte, Nat.reduceAdd, Nat.reduceMul, Nat.reduceLeDiff, Nat.reduceLT]
      refine loop_i ?_
      try simp only [go_sem, Nat.reduceEqDiff, reduceIte, Nat.reduceAdd, Nat.reduceMul, Nat.reduceLeDiff, Nat.reduceLT]
      refine cond_i (fun hb1 => ?_) (fun hb1 => ?_)
      · replace h := ifT (c := (decide (p0_2 < ((List.length p0_0 : Nat) : Int)))) hb1 h
        try simp only [go_sem, Nat.reduceEqDiff, reduceIte, Nat.reduceAdd, Nat.reduceMul, Nat.reduceLeDiff, Nat.reduceLT]
        refine seq_go ?_
        try simp only [go_sem, Nat.reduceEqDiff, reduceIte, Nat.reduceAdd, Nat.reduceMul, Nat.reduceLeDiff, Nat.reduceLT]
        obtain ⟨v5003, hv5003, h⟩ := bindE h
        refine call_i (l_markText_ok _ _ hv5003) ?_
        try simp only [go_sem, Nat.reduceEqDiff, reduceIte, Nat.reduceAdd, Nat.reduceMul, Nat.reduceLeDiff, Nat.reduceLT]
        obtain ⟨v5004, hv5004, h⟩ := bindE h
        refine idx_m hv5004 rfl ?_
        try simp only [go_sem, Nat.reduceEqDiff, reduceIte, Nat.reduceAdd, Nat.reduceMul, Nat.reduceLeDiff, Nat.reduceLT]
        obtain ⟨v5005_8, hv5005_8, h⟩ := bindE h
        refine opt_i (row_m hv5004) ?_
        try simp only [go_sem, Nat.reduceEqDiff, reduceIte, Nat.reduceAdd, Nat.reduceMul, Nat.reduceLeDiff, Nat.reduceLT]
        refine row_i (List.map strD v5005_8) (by rw [← set1_some hv5005_8]; simp only [List.map_set, go_sem, slD]) ?_
        try simp only [go_sem, Nat.reduceEqDiff, reduceIte, Nat.reduceAdd, Nat.reduceMul, Nat.reduceLeDiff, Nat.reduceLT]
        refine seq_go ?_
        try simp only [go_sem, Nat.reduceEqDiff, reduceIte, Nat.reduceAdd, Nat.reduceMul, Nat.reduceLeDiff, Nat.reduceLT]
        have hj := posG_to rfl rfl (ih0 v5005_8 (IntKind.i64.wrap (p0_1 + 1)) (IntKind.i64.wrap (p0_2 + 1)) z1 _ h)
        refine lp_to hj (.one ⟨_, .done _, [(1, 1)], [], ?_⟩)
        clear hj
        try simp only [go_sem, Nat.reduceEqDiff, reduceIte, Nat.reduceAdd, Nat.reduceMul, Nat.reduceLeDiff, Nat.reduceLT]
      · replace h := ifF (c := (decide (p0_2 < ((List.length p0_0 : Nat) : Int)))) hb1 h
        try simp only [go_sem, Nat.reduceEqDiff, reduceIte, Nat.reduceAdd, Nat.reduceMul, Nat.reduceLeDiff, Nat.reduceLT]
        refine seq_go ?_
        try simp only [go_sem, Nat.reduceEqDiff, reduceIte, Nat.reduceAdd, Nat.reduceMul, Nat.reduceLeDiff, Nat.reduceLT]
        obtain rfl := Option.some.inj h
        refine ret_i (.done _) [(1, 1)] [] ?_
        simp only [go_sem, Nat.reduceEqDiff, reduceIte, Nat.reduceAdd, Nat.reduceMul, Nat.reduceLeDiff, Nat.reduceLT]
theorem l_markStringS_l1_ok (n : Nat) : (∀ (p0_0 : List ByteArray) (p0_1 : Int) (p0_2 : Int) (z1 : Option Nat) (r : Int × (List ByteArray)), l_markStringS_l1 n p0_0 p0_1 p0_2 = some r → posG Try.prog Try.f238 [1, 0, 1, 0] (.int .i64 r.1) [(1, ⟨List.map strD r.2, z1, 0⟩)] [] ⟨[(0, .own 1), (1, .int .i64 p0_1), (5, .int .i64 p0_2)], [(1, some ⟨List.map strD p0_0, z1, 0⟩)], []⟩) := (l_markStringS_l1_all n)

theorem l_markStringS_ok (a0 : List ByteArray) (a1 : Int) (z1 : Option Nat) (r : Int × (List ByteArray)) (h : l_markStringS a0 a1 = some r) : AG Try.prog 238 [.own 1, .int .i64 a1] [(1, ⟨List.map strD a0, z1, 0⟩)] [] (.int .i64 r.1) [(1, ⟨List.map strD r.2, z1, 0⟩)] [] := by
  unfold l_markStringS at h
  refine ag_fn mixed Try.func238 rfl rfl rfl (by kernel_rfl) (by kernel_rfl) ?_
  try simp only [go_sem, Nat.reduceEqDiff, reduceIte, Nat.reduceAdd, Nat.reduceMul, Nat.reduceLeDiff, Nat.reduceLT]
  have hj := posG_to rfl rfl (l_markStringS_l1_ok fuel a0 a1 0 z1 _ h)
  refine loop_to hj (.one ⟨_, .done _, [(1, 1)], [], ?_⟩)
  clear hj
  try simp only [go_sem, Nat.reduceEqDiff, reduceIte, Nat.reduceAdd, Nat.reduceMul, Nat.reduceLeDiff, Nat.reduceLT]
theorem l_markTermS_all (n : Nat) : (∀ (a0 : List Term) (a1 : Int) (z1 : Option Nat) (r : Int × (List Term)), l_markTermS n a0 a1 = some r → AG Try.prog 239 [.own 1, .int .i64 a1] [(1, ⟨List.map Term.ds a0, z1, 0⟩)] [] (.int .i64 r.1) [(1, ⟨List.map Term.ds r.2, z1, 0⟩)] []) ∧
    (∀ (p0_0 : List Term) (p0_1 : Int) (p0_2 : Int) (z1 : Option Nat) (r : Int × (List Term)), l_markTermS_l1 n p0_0 p0_1 p0_2 = some r → posG Try.prog Try.f239 [1, 0, 1, 0] (.int .i64 r.1) [(1, ⟨List.map Term.ds r.2, z1, 0⟩)] [] ⟨[(0, .own 1), (1, .int .i64 p0_1), (5, .int .i64 p0_2)], [(1, some ⟨List.map Term.ds p0_0, z1, 0⟩)], []⟩) := by
  induction n with
  | zero => exact ⟨(fun _ _ _ _ h => by rw [l_markTermS] at h; cases h), (fun _ _ _ _ _ h => by rw [l_markTermS_l1] at h; cases h)⟩
  | succ n ih =>
    obtain ⟨ih0, ih1⟩ := ih
    refine ⟨?_, ?_⟩
    · intro a0 a1 z1 r h
      rw [l_markTermS] at h
      refine ag_fn mixed Try.func239 rfl rfl rfl (by kernel_rfl) (by kernel_rfl) ?_
      try simp only [go_sem, Nat.reduceEqDiff, reduceIte, Nat.reduceAdd, Nat.reduceMul, Nat.reduceLeDiff, Nat.reduceLT]
      have hj := posG_to rfl rfl (ih1 a0 a1 0 z1 _ h)
      refine loop_to hj (.one ⟨_, .done _, [(1, 1)], [], ?_⟩)
      clear hj
      try simp only [go_sem, Nat.reduceEqDiff, reduceIte, Nat.reduceAdd, Nat.reduceMul, Nat.reduceLeDiff, Nat.reduceLT]
    · intro p0_0 p0_1 p0_2 z1 r h
      rw [l_markTermS_l1] at h
      refine posG_of rfl rfl ?_
      try simp only [go_sem, Nat.reduceEqDiff, reduceIte, Nat.reduceAdd, Nat.reduceMul, Nat.reduceLeDiff, Nat.reduceLT]
      refine loop_i ?_
      try simp only [go_sem, Nat.reduceEqDiff, reduceIte, Nat.reduceAdd, Nat.reduceMul, Nat.reduceLeDiff, Nat.reduceLT]
      refine cond_i (fun hb1 => ?_) (fun hb1 => ?_)
      · replace h := ifT (c := (decide (p0_2 < ((List.length p0_0 : Nat) : Int)))) hb1 h
        try simp only [go_sem, Nat.reduceEqDiff, reduceIte, Nat.reduceAdd, Nat.reduceMul, Nat.reduceLeDiff, Nat.reduceLT]
        refine seq_go ?_
        try simp only [go_sem, Nat.reduceEqDiff, reduceIte, Nat.reduceAdd, Nat.reduceMul, Nat.reduceLeDiff, Nat.reduceLT]
        obtain ⟨v5003, hv5003, h⟩ := bindE h
        refine idx_m hv5003 (Term.ds_len _) ?_
        try simp only [go_sem, Nat.reduceEqDiff, reduceIte, Nat.reduceAdd, Nat.reduceMul, Nat.reduceLeDiff, Nat.reduceLT]
        obtain ⟨v5005_57, hv5005_57, h⟩ := bindE h
        refine opt_i (row_m hv5003) ?_
        try simp only [go_sem, Nat.reduceEqDiff, reduceIte, Nat.reduceAdd, Nat.reduceMul, Nat.reduceLeDiff, Nat.reduceLT]
        refine row_i (List.map Term.ds v5005_57) (by rw [← set1_some hv5005_57]; simp only [List.map_set, go_sem, Term.ds_eq]) ?_
        try simp only [go_sem, Nat.reduceEqDiff, reduceIte, Nat.reduceAdd, Nat.reduceMul, Nat.reduceLeDiff, Nat.reduceLT]
        obtain ⟨v7003, hv7003, h⟩ := bindE h
        refine idx_m hv7003 (Term.ds_len _) ?_
        try simp only [go_sem, Nat.reduceEqDiff, reduceIte, Nat.reduceAdd, Nat.reduceMul, Nat.reduceLeDiff, Nat.reduceLT]
        obtain ⟨v7005_58, hv7005_58, h⟩ := bindE h
        refine opt_i (row_m hv7003) ?_
        try simp only [go_sem, Nat.reduceEqDiff, reduceIte, Nat.reduceAdd, Nat.reduceMul, Nat.reduceLeDiff, Nat.reduceLT]
        refine row_i (List.map Term.ds v7005_58) (by rw [← set1_some hv7005_58]; simp only [List.map_set, go_sem, Term.ds_eq]) ?_
        try simp only [go_sem, Nat.reduceEqDiff, reduceIte, Nat.reduceAdd, Nat.reduceMul, Nat.reduceLeDiff, Nat.reduceLT]
        obtain ⟨v9003, hv9003, h⟩ := bindE h
        refine call_i (l_markText_ok _ _ hv9003) ?_
        try simp only [go_sem, Nat.reduceEqDiff, reduceIte, Nat.reduceAdd, Nat.reduceMul, Nat.reduceLeDiff, Nat.reduceLT]
        obtain ⟨v9004, hv9004, h⟩ := bindE h
        refine idx_m hv9004 (Term.ds_len _) ?_
        try simp only [go_sem, Nat.reduceEqDiff, reduceIte, Nat.reduceAdd, Nat.reduceMul, Nat.reduceLeDiff, Nat.reduceLT]
        obtain ⟨v9006_59, hv9006_59, h⟩ := bindE h
        refine opt_i (row_m hv9004) ?_
        try simp only [go_sem, Nat.reduceEqDiff, reduceIte, Nat.reduceAdd, Nat.reduceMul, Nat.reduceLeDiff, Nat.reduceLT]
        refine row_i (List.map Term.ds v9006_59) (by rw [← set1_some hv9006_59]; simp only [List.map_set, go_sem, Term.ds_eq]) ?_
        try simp only [go_sem, Nat.reduceEqDiff, reduceIte, Nat.reduceAdd, Nat.reduceMul, Nat.reduceLeDiff, Nat.reduceLT]
        obtain ⟨v11003, hv11003, h⟩ := bindE h
        refine idx_m hv11003 (Term.ds_len _) ?_
        try simp only [go_sem, Nat.reduceEqDiff, reduceIte, Nat.reduceAdd, Nat.reduceMul, Nat.reduceLeDiff, Nat.reduceLT]
        obtain ⟨v11006_60, hv11006_60, h⟩ := bindE h
        refine opt_i (row_m hv11003) ?_
        try simp only [go_sem, Nat.reduceEqDiff, reduceIte, Nat.reduceAdd, Nat.reduceMul, Nat.reduceLeDiff, Nat.reduceLT]
        refine row_i (List.map Term.ds v11006_60) (by rw [← set1_some hv11006_60]; simp only [List.map_set, go_sem, Term.ds_eq]) ?_
        try simp only [go_sem, Nat.reduceEqDiff, reduceIte, Nat.reduceAdd, Nat.reduceMul, Nat.reduceLeDiff, Nat.reduceLT]
        obtain ⟨v13003, hv13003, h⟩ := bindE h
        refine call_i (l_markText_ok _ _ hv13003) ?_
        try simp only [go_sem, Nat.reduceEqDiff, reduceIte, Nat.reduceAdd, Nat.reduceMul, Nat.reduceLeDiff, Nat.reduceLT]
        obtain ⟨v13004, hv13004, h⟩ := bindE h
        refine idx_m hv13004 (Term.ds_len _) ?_
        try simp only [go_sem, Nat.reduceEqDiff, reduceIte, Nat.reduceAdd, Nat.reduceMul, Nat.reduceLeDiff, Nat.reduceLT]
        obtain ⟨v13007_61, hv13007_61, h⟩ := bindE h
        refine opt_i (row_m hv13004) ?_
        try simp only [go_sem, Nat.reduceEqDiff, reduceIte, Nat.reduceAdd, Nat.reduceMul, Nat.reduceLeDiff, Nat.reduceLT]
        refine row_i (List.map Term.ds v13007_61) (by rw [← set1_some hv13007_61]; simp only [List.map_set, go_sem, Term.ds_eq]) ?_
        try simp only [go_sem, Nat.reduceEqDiff, reduceIte, Nat.reduceAdd, Nat.reduceMul, Nat.reduceLeDiff, Nat.reduceLT]
        obtain ⟨v15002, hv15002, h⟩ := bindE h
        refine idx_m hv15002 (Term.ds_len _) ?_
        try simp only [go_sem, Nat.reduceEqDiff, reduceIte, Nat.reduceAdd, Nat.reduceMul, Nat.reduceLeDiff, Nat.reduceLT]
        refine opt_i (row_m hv15002) ?_
        try simp only [go_sem, Nat.reduceEqDiff, reduceIte, Nat.reduceAdd, Nat.reduceMul, Nat.reduceLeDiff, Nat.reduceLT]
        obtain ⟨v15007, hv15007, h⟩ := bindE h
        obtain ⟨v15007_62, hv15007_62, h⟩ := bindE h
        refine call_g ⟨[(3000240112, .sub 1 0 [(8, Int.toNat p0_2, 5)], none)], [(1, 3000240112)], [], [], [], true⟩ (by kernel_rfl) (l_markTypeS_ok fuel _ _ none _ hv15007) (by kernel_rfl) ?_
        try simp only [go_sem, Nat.reduceEqDiff, reduceIte, Nat.reduceAdd, Nat.reduceMul, Nat.reduceLeDiff, Nat.reduceLT]
        refine opt_i (getP_1 (r := List.map TType.ds v15002.typ.kids) (row_m hv15002) (Term.ds_len _) (by simp only [go_sem, Term.ds_eq])) ?_
        try simp only [go_sem, Nat.reduceEqDiff, reduceIte, Nat.reduceAdd, Nat.reduceMul, Nat.reduceLeDiff, Nat.reduceLT]
        refine row_i ((List.map Term.ds v13007_61).set (Int.toNat p0_2) [.int .i64 v15002.kind, .int .i64 v15002.num, .str v15002.name, .int .i64 v15002.typ.kind, .str v15002.typ.name, .gone, .sl (List.map strD v15002.names), .sl (List.map Term.ds v15002.kids)]) ((putR_1 (row_m hv15002) (d' := .sl (List.map TType.ds v15002.typ.kids)) (by simp only [go_sem, Term.ds_eq])).trans (by simp only [go_sem, Term.ds_eq])) ?_
        try simp only [go_sem, Nat.reduceEqDiff, reduceIte, Nat.reduceAdd, Nat.reduceMul, Nat.reduceLeDiff, Nat.reduceLT]
        refine and_i (getC_1 (set_at (row_m hv15002)) rfl rfl) ?_
        try simp only [go_sem, Nat.reduceEqDiff, reduceIte, Nat.reduceAdd, Nat.reduceMul, Nat.reduceLeDiff, Nat.reduceLT]
        refine row_i (List.map Term.ds v15007_62) (((putR_1 (set_at (row_m hv15002)) (d' := .gone) rfl).trans (List.set_set ..)).trans (by rw [← set1_some hv15007_62]; simp only [List.map_set, go_sem, Term.ds_eq])) ?_
        try simp only [go_sem, Nat.reduceEqDiff, reduceIte, Nat.reduceAdd, Nat.reduceMul, Nat.reduceLeDiff, Nat.reduceLT]
        obtain ⟨v16002, hv16002, h⟩ := bindE h
        refine idx_m hv16002 (Term.ds_len _) ?_
        try simp only [go_sem, Nat.reduceEqDiff, reduceIte, Nat.reduceAdd, Nat.reduceMul, Nat.reduceLeDiff, Nat.reduceLT]
        refine opt_i (row_m hv16002) ?_
        try simp only [go_sem, Nat.reduceEqDiff, reduceIte, Nat.reduceAdd, Nat.reduceMul, Nat.reduceLeDiff, Nat.reduceLT]
        obtain ⟨v16006, hv16006, h⟩ := bindE h
        obtain ⟨v16006_63, hv16006_63, h⟩ := bindE h
        refine call_g ⟨[(3000256096, .sub 1 0 [(8, Int.toNat p0_2, 6)], none)], [(1, 3000256096)], [], [], [], true⟩ (by kernel_rfl) (l_markStringS_ok _ _ none _ hv16006) (by kernel_rfl) ?_
        try simp only [go_sem, Nat.reduceEqDiff, reduceIte, Nat.reduceAdd, Nat.reduceMul, Nat.reduceLeDiff, Nat.reduceLT]
        refine opt_i (getP_1 (r := List.map strD v16002.names) (row_m hv16002) (Term.ds_len _) (by simp only [go_sem, Term.ds_eq])) ?_
        try simp only [go_sem, Nat.reduceEqDiff, reduceIte, Nat.reduceAdd, Nat.reduceMul, Nat.reduceLeDiff, Nat.reduceLT]
        refine row_i ((List.map Term.ds v15007_62).set (Int.toNat p0_2) [.int .i64 v16002.kind, .int .i64 v16002.num, .str v16002.name, .int .i64 v16002.typ.kind, .str v16002.typ.name, .sl (List.map TType.ds v16002.typ.kids), .gone, .sl (List.map Term.ds v16002.kids)]) ((putR_1 (row_m hv16002) (d' := .sl (List.map strD v16002.names)) (by simp only [go_sem, Term.ds_eq])).trans (by simp only [go_sem, Term.ds_eq])) ?_
        try simp only [go_sem, Nat.reduceEqDiff, reduceIte, Nat.reduceAdd, Nat.reduceMul, Nat.reduceLeDiff, Nat.reduceLT]
        refine and_i (getC_1 (set_at (row_m hv16002)) rfl rfl) ?_
        try simp only [go_sem, Nat.reduceEqDiff, reduceIte, Nat.reduceAdd, Nat.reduceMul, Nat.reduceLeDiff, Nat.reduceLT]
        refine row_i (List.map Term.ds v16006_63) (((putR_1 (set_at (row_m hv16002)) (d' := .gone) rfl).trans (List.set_set ..)).trans (by rw [← set1_some hv16006_63]; simp only [List.map_set, go_sem, Term.ds_eq])) ?_
        try simp only [go_sem, Nat.reduceEqDiff, reduceIte, Nat.reduceAdd, Nat.reduceMul, Nat.reduceLeDiff, Nat.reduceLT]
        obtain ⟨v17002, hv17002, h⟩ := bindE h
        refine idx_m hv17002 (Term.ds_len _) ?_
        try simp only [go_sem, Nat.reduceEqDiff, reduceIte, Nat.reduceAdd, Nat.reduceMul, Nat.reduceLeDiff, Nat.reduceLT]
        refine opt_i (row_m hv17002) ?_
        try simp only [go_sem, Nat.reduceEqDiff, reduceIte, Nat.reduceAdd, Nat.reduceMul, Nat.reduceLeDiff, Nat.reduceLT]
        obtain ⟨v17006, hv17006, h⟩ := bindE h
        obtain ⟨v17006_64, hv17006_64, h⟩ := bindE h
        refine call_g ⟨[(3000272096, .sub 1 0 [(8, Int.toNat p0_2, 7)], none)], [(1, 3000272096)], [], [], [], true⟩ (by kernel_rfl) (ih0 _ _ none _ hv17006) (by kernel_rfl) ?_
        try simp only [go_sem, Nat.reduceEqDiff, reduceIte, Nat.reduceAdd, Nat.reduceMul, Nat.reduceLeDiff, Nat.reduceLT]
        refine opt_i (getP_1 (r := List.map Term.ds v17002.kids) (row_m hv17002) (Term.ds_len _) (by simp only [go_sem, Term.ds_eq])) ?_
        try simp only [go_sem, Nat.reduceEqDiff, reduceIte, Nat.reduceAdd, Nat.reduceMul, Nat.reduceLeDiff, Nat.reduceLT]
        refine row_i ((List.map Term.ds v16006_63).set (Int.toNat p0_2) [.int .i64 v17002.kind, .int .i64 v17002.num, .str v17002.name, .int .i64 v17002.typ.kind, .str v17002.typ.name, .sl (List.map TType.ds v17002.typ.kids), .sl (List.map strD v17002.names), .gone]) ((putR_1 (row_m hv17002) (d' := .sl (List.map Term.ds v17002.kids)) (by simp only [go_sem, Term.ds_eq])).trans (by simp only [go_sem, Term.ds_eq])) ?_
        try simp only [go_sem, Nat.reduceEqDiff, reduceIte, Nat.reduceAdd, Nat.reduceMul, Nat.reduceLeDiff, Nat.reduceLT]
        refine and_i (getC_1 (set_at (row_m hv17002)) rfl rfl) ?_
        try simp only [go_sem, Nat.reduceEqDiff, reduceIte, Nat.reduceAdd, Nat.reduceMul, Nat.reduceLeDiff, Nat.reduceLT]
        refine row_i (List.map Term.ds v17006_64) (((putR_1 (set_at (row_m hv17002)) (d' := .gone) rfl).trans (List.set_set ..)).trans (by rw [← set1_some hv17006_64]; simp only [List.map_set, go_sem, Term.ds_eq])) ?_
        try simp only [go_sem, Nat.reduceEqDiff, reduceIte, Nat.reduceAdd, Nat.reduceMul, Nat.reduceLeDiff, Nat.reduceLT]
        refine seq_go ?_
        try simp only [go_sem, Nat.reduceEqDiff, reduceIte, Nat.reduceAdd, Nat.reduceMul, Nat.reduceLeDiff, Nat.reduceLT]
        have hj := posG_to rfl rfl (ih1 v17006_64 v17006.1 (IntKind.i64.wrap (p0_2 + 1)) z1 _ h)
        refine lp_to hj (.one ⟨_, .done _, [(1, 1)], [], ?_⟩)
        clear hj
        try simp only [go_sem, Nat.reduceEqDiff, reduceIte, Nat.reduceAdd, Nat.reduceMul, Nat.reduceLeDiff, Nat.reduceLT]
      · replace h := ifF (c := (decide (p0_2 < ((List.length p0_0 : Nat) : Int)))) hb1 h
        try simp only [go_sem, Nat.reduceEqDiff, reduceIte, Nat.reduceAdd, Nat.reduceMul, Nat.reduceLeDiff, Nat.reduceLT]
        refine seq_go ?_
        try simp only [go_sem, Nat.reduceEqDiff, reduceIte, Nat.reduceAdd, Nat.reduceMul, Nat.reduceLeDiff, Nat.reduceLT]
        obtain rfl := Option.some.inj h
        refine ret_i (.done _) [(1, 1)] [] ?_
        simp only [go_sem, Nat.reduceEqDiff, reduceIte, Nat.reduceAdd, Nat.reduceMul, Nat.reduceLeDiff, Nat.reduceLT]
theorem l_markTermS_ok (n : Nat) : (∀ (a0 : List Term) (a1 : Int) (z1 : Option Nat) (r : Int × (List Term)), l_markTermS n a0 a1 = some r → AG Try.prog 239 [.own 1, .int .i64 a1] [(1, ⟨List.map Term.ds a0, z1, 0⟩)] [] (.int .i64 r.1) [(1, ⟨List.map Term.ds r.2, z1, 0⟩)] []) := (l_markTermS_all n).1
theorem l_markTermS_l1_ok (n : Nat) : (∀ (p0_0 : List Term) (p0_1 : Int) (p0_2 : Int) (z1 : Option Nat) (r : Int × (List Term)), l_markTermS_l1 n p0_0 p0_1 p0_2 = some r → posG Try.prog Try.f239 [1, 0, 1, 0] (.int .i64 r.1) [(1, ⟨List.map Term.ds r.2, z1, 0⟩)] [] ⟨[(0, .own 1), (1, .int .i64 p0_1), (5, .int .i64 p0_2)], [(1, some ⟨List.map Term.ds p0_0, z1, 0⟩)], []⟩) := (l_markTermS_all n).2

theorem l_markDefS_l1_all (n : Nat) : (∀ (p0_0 : List Def) (p0_1 : Int) (p0_2 : Int) (z1 : Option Nat) (r : Int × (List Def)), l_markDefS_l1 n p0_0 p0_1 p0_2 = some r → posG Try.prog Try.f194 [1, 0, 1, 0] (.int .i64 r.1) [(1, ⟨List.map Def.ds r.2, z1, 0⟩)] [] ⟨[(0, .own 1), (1, .int .i64 p0_1), (5, .int .i64 p0_2)], [(1, some ⟨List.map Def.ds p0_0, z1, 0⟩)], []⟩) := by
  induction n with
  | zero => exact ((fun _ _ _ _ _ h => by rw [l_markDefS_l1] at h; cases h))
  | succ n ih =>
    have ih0 := ih
    · intro p0_0 p0_1 p0_2 z1 r h
      rw [l_markDefS_l1] at h
      refine posG_of rfl rfl ?_
      try simp only [go_sem, Nat.reduceEqDiff, reduceIte, Nat.reduceAdd, Nat.reduceMul, Nat.reduceLeDiff, Nat.reduceLT]
      refine loop_i ?_
      try simp only [go_sem, Nat.reduceEqDiff, reduceIte, Nat.reduceAdd, Nat.reduceMul, Nat.reduceLeDiff, Nat.reduceLT]
      refine cond_i (fun hb1 => ?_) (fun hb1 => ?_)
      · replace h := ifT (c := (decide (p0_2 < ((List.length p0_0 : Nat) : Int)))) hb1 h
        try simp only [go_sem, Nat.reduceEqDiff, reduceIte, Nat.reduceAdd, Nat.reduceMul, Nat.reduceLeDiff, Nat.reduceLT]
        refine seq_go ?_
        try simp only [go_sem, Nat.reduceEqDiff, reduceIte, Nat.reduceAdd, Nat.reduceMul, Nat.reduceLeDiff, Nat.reduceLT]
        obtain ⟨v5003, hv5003, h⟩ := bindE h
        refine call_i (l_markText_ok _ _ hv5003) ?_
        try simp only [go_sem, Nat.reduceEqDiff, reduceIte, Nat.reduceAdd, Nat.reduceMul, Nat.reduceLeDiff, Nat.reduceLT]
        obtain ⟨v5004, hv5004, h⟩ := bindE h
        refine idx_m hv5004 (Def.ds_len _) ?_
        try simp only [go_sem, Nat.reduceEqDiff, reduceIte, Nat.reduceAdd, Nat.reduceMul, Nat.reduceLeDiff, Nat.reduceLT]
        obtain ⟨v5006_85, hv5006_85, h⟩ := bindE h
        refine opt_i (row_m hv5004) ?_
        try simp only [go_sem, Nat.reduceEqDiff, reduceIte, Nat.reduceAdd, Nat.reduceMul, Nat.reduceLeDiff, Nat.reduceLT]
        refine row_i (List.map Def.ds v5006_85) (by rw [← set1_some hv5006_85]; simp only [List.map_set, go_sem, Def.ds_eq]) ?_
        try simp only [go_sem, Nat.reduceEqDiff, reduceIte, Nat.reduceAdd, Nat.reduceMul, Nat.reduceLeDiff, Nat.reduceLT]
        obtain ⟨v7003, hv7003, h⟩ := bindE h
        refine idx_m hv7003 (Def.ds_len _) ?_
        try simp only [go_sem, Nat.reduceEqDiff, reduceIte, Nat.reduceAdd, Nat.reduceMul, Nat.reduceLeDiff, Nat.reduceLT]
        obtain ⟨v7006_86, hv7006_86, h⟩ := bindE h
        refine opt_i (row_m hv7003) ?_
        try simp only [go_sem, Nat.reduceEqDiff, reduceIte, Nat.reduceAdd, Nat.reduceMul, Nat.reduceLeDiff, Nat.reduceLT]
        refine row_i (List.map Def.ds v7006_86) (by rw [← set1_some hv7006_86]; simp only [List.map_set, go_sem, Def.ds_eq]) ?_
        try simp only [go_sem, Nat.reduceEqDiff, reduceIte, Nat.reduceAdd, Nat.reduceMul, Nat.reduceLeDiff, Nat.reduceLT]
        obtain ⟨v9003, hv9003, h⟩ := bindE h
        refine call_i (l_markText_ok _ _ hv9003) ?_
        try simp only [go_sem, Nat.reduceEqDiff, reduceIte, Nat.reduceAdd, Nat.reduceMul, Nat.reduceLeDiff, Nat.reduceLT]
        obtain ⟨v9004, hv9004, h⟩ := bindE h
        refine idx_m hv9004 (Def.ds_len _) ?_
        try simp only [go_sem, Nat.reduceEqDiff, reduceIte, Nat.reduceAdd, Nat.reduceMul, Nat.reduceLeDiff, Nat.reduceLT]
        obtain ⟨v9007_87, hv9007_87, h⟩ := bindE h
        refine opt_i (row_m hv9004) ?_
        try simp only [go_sem, Nat.reduceEqDiff, reduceIte, Nat.reduceAdd, Nat.reduceMul, Nat.reduceLeDiff, Nat.reduceLT]
        refine row_i (List.map Def.ds v9007_87) (by rw [← set1_some hv9007_87]; simp only [List.map_set, go_sem, Def.ds_eq]) ?_
        try simp only [go_sem, Nat.reduceEqDiff, reduceIte, Nat.reduceAdd, Nat.reduceMul, Nat.reduceLeDiff, Nat.reduceLT]
        obtain ⟨v11002, hv11002, h⟩ := bindE h
        refine idx_m hv11002 (Def.ds_len _) ?_
        try simp only [go_sem, Nat.reduceEqDiff, reduceIte, Nat.reduceAdd, Nat.reduceMul, Nat.reduceLeDiff, Nat.reduceLT]
        refine opt_i (row_m hv11002) ?_
        try simp only [go_sem, Nat.reduceEqDiff, reduceIte, Nat.reduceAdd, Nat.reduceMul, Nat.reduceLeDiff, Nat.reduceLT]
        obtain ⟨v11007, hv11007, h⟩ := bindE h
        obtain ⟨v11007_88, hv11007_88, h⟩ := bindE h
        refine call_g ⟨[(3000176112, .sub 1 0 [(12, Int.toNat p0_2, 3)], none)], [(1, 3000176112)], [], [], [], true⟩ (by kernel_rfl) (l_markTypeS_ok fuel _ _ none _ hv11007) (by kernel_rfl) ?_
        try simp only [go_sem, Nat.reduceEqDiff, reduceIte, Nat.reduceAdd, Nat.reduceMul, Nat.reduceLeDiff, Nat.reduceLT]
        refine opt_i (getP_1 (r := List.map TType.ds v11002.typ.kids) (row_m hv11002) (Def.ds_len _) (by simp only [go_sem, Def.ds_eq])) ?_
        try simp only [go_sem, Nat.reduceEqDiff, reduceIte, Nat.reduceAdd, Nat.reduceMul, Nat.reduceLeDiff, Nat.reduceLT]
        refine row_i ((List.map Def.ds v9007_87).set (Int.toNat p0_2) [.str v11002.name, .int .i64 v11002.typ.kind, .str v11002.typ.name, .gone, .int .i64 v11002.body.kind, .int .i64 v11002.body.num, .str v11002.body.name, .int .i64 v11002.body.typ.kind, .str v11002.body.typ.name, .sl (List.map TType.ds v11002.body.typ.kids), .sl (List.map strD v11002.body.names), .sl (List.map Term.ds v11002.body.kids)]) ((putR_1 (row_m hv11002) (d' := .sl (List.map TType.ds v11002.typ.kids)) (by simp only [go_sem, Def.ds_eq])).trans (by simp only [go_sem, Def.ds_eq])) ?_
        try simp only [go_sem, Nat.reduceEqDiff, reduceIte, Nat.reduceAdd, Nat.reduceMul, Nat.reduceLeDiff, Nat.reduceLT]
        refine and_i (getC_1 (set_at (row_m hv11002)) rfl rfl) ?_
        try simp only [go_sem, Nat.reduceEqDiff, reduceIte, Nat.reduceAdd, Nat.reduceMul, Nat.reduceLeDiff, Nat.reduceLT]
        refine row_i (List.map Def.ds v11007_88) (((putR_1 (set_at (row_m hv11002)) (d' := .gone) rfl).trans (List.set_set ..)).trans (by rw [← set1_some hv11007_88]; simp only [List.map_set, go_sem, Def.ds_eq])) ?_
        try simp only [go_sem, Nat.reduceEqDiff, reduceIte, Nat.reduceAdd, Nat.reduceMul, Nat.reduceLeDiff, Nat.reduceLT]
        obtain ⟨v12003, hv12003, h⟩ := bindE h
        refine idx_m hv12003 (Def.ds_len _) ?_
        try simp only [go_sem, Nat.reduceEqDiff, reduceIte, Nat.reduceAdd, Nat.reduceMul, Nat.reduceLeDiff, Nat.reduceLT]
        obtain ⟨v12006_89, hv12006_89, h⟩ := bindE h
        refine opt_i (row_m hv12003) ?_
        try simp only [go_sem, Nat.reduceEqDiff, reduceIte, Nat.reduceAdd, Nat.reduceMul, Nat.reduceLeDiff, Nat.reduceLT]
        refine row_i (List.map Def.ds v12006_89) (by rw [← set1_some hv12006_89]; simp only [List.map_set, go_sem, Def.ds_eq]) ?_
        try simp only [go_sem, Nat.reduceEqDiff, reduceIte, Nat.reduceAdd, Nat.reduceMul, Nat.reduceLeDiff, Nat.reduceLT]
        obtain ⟨v14003, hv14003, h⟩ := bindE h
        refine idx_m hv14003 (Def.ds_len _) ?_
        try simp only [go_sem, Nat.reduceEqDiff, reduceIte, Nat.reduceAdd, Nat.reduceMul, Nat.reduceLeDiff, Nat.reduceLT]
        obtain ⟨v14006_90, hv14006_90, h⟩ := bindE h
        refine opt_i (row_m hv14003) ?_
        try simp only [go_sem, Nat.reduceEqDiff, reduceIte, Nat.reduceAdd, Nat.reduceMul, Nat.reduceLeDiff, Nat.reduceLT]
        refine row_i (List.map Def.ds v14006_90) (by rw [← set1_some hv14006_90]; simp only [List.map_set, go_sem, Def.ds_eq]) ?_
        try simp only [go_sem, Nat.reduceEqDiff, reduceIte, Nat.reduceAdd, Nat.reduceMul, Nat.reduceLeDiff, Nat.reduceLT]
        obtain ⟨v16003, hv16003, h⟩ := bindE h
        refine call_i (l_markText_ok _ _ hv16003) ?_
        try simp only [go_sem, Nat.reduceEqDiff, reduceIte, Nat.reduceAdd, Nat.reduceMul, Nat.reduceLeDiff, Nat.reduceLT]
        obtain ⟨v16004, hv16004, h⟩ := bindE h
        refine idx_m hv16004 (Def.ds_len _) ?_
        try simp only [go_sem, Nat.reduceEqDiff, reduceIte, Nat.reduceAdd, Nat.reduceMul, Nat.reduceLeDiff, Nat.reduceLT]
        obtain ⟨v16007_91, hv16007_91, h⟩ := bindE h
        refine opt_i (row_m hv16004) ?_
        try simp only [go_sem, Nat.reduceEqDiff, reduceIte, Nat.reduceAdd, Nat.reduceMul, Nat.reduceLeDiff, Nat.reduceLT]
        refine row_i (List.map Def.ds v16007_91) (by rw [← set1_some hv16007_91]; simp only [List.map_set, go_sem, Def.ds_eq]) ?_
        try simp only [go_sem, Nat.reduceEqDiff, reduceIte, Nat.reduceAdd, Nat.reduceMul, Nat.reduceLeDiff, Nat.reduceLT]
        obtain ⟨v18003, hv18003, h⟩ := bindE h
        refine idx_m hv18003 (Def.ds_len _) ?_
        try simp only [go_sem, Nat.reduceEqDiff, reduceIte, Nat.reduceAdd, Nat.reduceMul, Nat.reduceLeDiff, Nat.reduceLT]
        obtain ⟨v18007_92, hv18007_92, h⟩ := bindE h
        refine opt_i (row_m hv18003) ?_
        try simp only [go_sem, Nat.reduceEqDiff, reduceIte, Nat.reduceAdd, Nat.reduceMul, Nat.reduceLeDiff, Nat.reduceLT]
        refine row_i (List.map Def.ds v18007_92) (by rw [← set1_some hv18007_92]; simp only [List.map_set, go_sem, Def.ds_eq]) ?_
        try simp only [go_sem, Nat.reduceEqDiff, reduceIte, Nat.reduceAdd, Nat.reduceMul, Nat.reduceLeDiff, Nat.reduceLT]
        obtain ⟨v20003, hv20003, h⟩ := bindE h
        refine call_i (l_markText_ok _ _ hv20003) ?_
        try simp only [go_sem, Nat.reduceEqDiff, reduceIte, Nat.reduceAdd, Nat.reduceMul, Nat.reduceLeDiff, Nat.reduceLT]
        obtain ⟨v20004, hv20004, h⟩ := bindE h
        refine idx_m hv20004 (Def.ds_len _) ?_
        try simp only [go_sem, Nat.reduceEqDiff, reduceIte, Nat.reduceAdd, Nat.reduceMul, Nat.reduceLeDiff, Nat.reduceLT]
        obtain ⟨v20008_93, hv20008_93, h⟩ := bindE h
        refine opt_i (row_m hv20004) ?_
        try simp only [go_sem, Nat.reduceEqDiff, reduceIte, Nat.reduceAdd, Nat.reduceMul, Nat.reduceLeDiff, Nat.reduceLT]
        refine row_i (List.map Def.ds v20008_93) (by rw [← set1_some hv20008_93]; simp only [List.map_set, go_sem, Def.ds_eq]) ?_
        try simp only [go_sem, Nat.reduceEqDiff, reduceIte, Nat.reduceAdd, Nat.reduceMul, Nat.reduceLeDiff, Nat.reduceLT]
        obtain ⟨v22002, hv22002, h⟩ := bindE h
        refine idx_m hv22002 (Def.ds_len _) ?_
        try simp only [go_sem, Nat.reduceEqDiff, reduceIte, Nat.reduceAdd, Nat.reduceMul, Nat.reduceLeDiff, Nat.reduceLT]
        refine opt_i (row_m hv22002) ?_
        try simp only [go_sem, Nat.reduceEqDiff, reduceIte, Nat.reduceAdd, Nat.reduceMul, Nat.reduceLeDiff, Nat.reduceLT]
        obtain ⟨v22008, hv22008, h⟩ := bindE h
        obtain ⟨v22008_94, hv22008_94, h⟩ := bindE h
        refine call_g ⟨[(3000352128, .sub 1 0 [(12, Int.toNat p0_2, 9)], none)], [(1, 3000352128)], [], [], [], true⟩ (by kernel_rfl) (l_markTypeS_ok fuel _ _ none _ hv22008) (by kernel_rfl) ?_
        try simp only [go_sem, Nat.reduceEqDiff, reduceIte, Nat.reduceAdd, Nat.reduceMul, Nat.reduceLeDiff, Nat.reduceLT]
        refine opt_i (getP_1 (r := List.map TType.ds v22002.body.typ.kids) (row_m hv22002) (Def.ds_len _) (by simp only [go_sem, Def.ds_eq])) ?_
        try simp only [go_sem, Nat.reduceEqDiff, reduceIte, Nat.reduceAdd, Nat.reduceMul, Nat.reduceLeDiff, Nat.reduceLT]
        refine row_i ((List.map Def.ds v20008_93).set (Int.toNat p0_2) [.str v22002.name, .int .i64 v22002.typ.kind, .str v22002.typ.name, .sl (List.map TType.ds v22002.typ.kids), .int .i64 v22002.body.kind, .int .i64 v22002.body.num, .str v22002.body.name, .int .i64 v22002.body.typ.kind, .str v22002.body.typ.name, .gone, .sl (List.map strD v22002.body.names), .sl (List.map Term.ds v22002.body.kids)]) ((putR_1 (row_m hv22002) (d' := .sl (List.map TType.ds v22002.body.typ.kids)) (by simp only [go_sem, Def.ds_eq])).trans (by simp only [go_sem, Def.ds_eq])) ?_
        try simp only [go_sem, Nat.reduceEqDiff, reduceIte, Nat.reduceAdd, Nat.reduceMul, Nat.reduceLeDiff, Nat.reduceLT]
        refine and_i (getC_1 (set_at (row_m hv22002)) rfl rfl) ?_
        try simp only [go_sem, Nat.reduceEqDiff, reduceIte, Nat.reduceAdd, Nat.reduceMul, Nat.reduceLeDiff, Nat.reduceLT]
        refine row_i (List.map Def.ds v22008_94) (((putR_1 (set_at (row_m hv22002)) (d' := .gone) rfl).trans (List.set_set ..)).trans (by rw [← set1_some hv22008_94]; simp only [List.map_set, go_sem, Def.ds_eq])) ?_
        try simp only [go_sem, Nat.reduceEqDiff, reduceIte, Nat.reduceAdd, Nat.reduceMul, Nat.reduceLeDiff, Nat.reduceLT]
        obtain ⟨v23002, hv23002, h⟩ := bindE h
        refine idx_m hv23002 (Def.ds_len _) ?_
        try simp only [go_sem, Nat.reduceEqDiff, reduceIte, Nat.reduceAdd, Nat.reduceMul, Nat.reduceLeDiff, Nat.reduceLT]
        refine opt_i (row_m hv23002) ?_
        try simp only [go_sem, Nat.reduceEqDiff, reduceIte, Nat.reduceAdd, Nat.reduceMul, Nat.reduceLeDiff, Nat.reduceLT]
        obtain ⟨v23007, hv23007, h⟩ := bindE h
        obtain ⟨v23007_95, hv23007_95, h⟩ := bindE h
        refine call_g ⟨[(3000368112, .sub 1 0 [(12, Int.toNat p0_2, 10)], none)], [(1, 3000368112)], [], [], [], true⟩ (by kernel_rfl) (l_markStringS_ok _ _ none _ hv23007) (by kernel_rfl) ?_
        try simp only [go_sem, Nat.reduceEqDiff, reduceIte, Nat.reduceAdd, Nat.reduceMul, Nat.reduceLeDiff, Nat.reduceLT]
        refine opt_i (getP_1 (r := List.map strD v23002.body.names) (row_m hv23002) (Def.ds_len _) (by simp only [go_sem, Def.ds_eq])) ?_
        try simp only [go_sem, Nat.reduceEqDiff, reduceIte, Nat.reduceAdd, Nat.reduceMul, Nat.reduceLeDiff, Nat.reduceLT]
        refine row_i ((List.map Def.ds v22008_94).set (Int.toNat p0_2) [.str v23002.name, .int .i64 v23002.typ.kind, .str v23002.typ.name, .sl (List.map TType.ds v23002.typ.kids), .int .i64 v23002.body.kind, .int .i64 v23002.body.num, .str v23002.body.name, .int .i64 v23002.body.typ.kind, .str v23002.body.typ.name, .sl (List.map TType.ds v23002.body.typ.kids), .gone, .sl (List.map Term.ds v23002.body.kids)]) ((putR_1 (row_m hv23002) (d' := .sl (List.map strD v23002.body.names)) (by simp only [go_sem, Def.ds_eq])).trans (by simp only [go_sem, Def.ds_eq])) ?_
        try simp only [go_sem, Nat.reduceEqDiff, reduceIte, Nat.reduceAdd, Nat.reduceMul, Nat.reduceLeDiff, Nat.reduceLT]
        refine and_i (getC_1 (set_at (row_m hv23002)) rfl rfl) ?_
        try simp only [go_sem, Nat.reduceEqDiff, reduceIte, Nat.reduceAdd, Nat.reduceMul, Nat.reduceLeDiff, Nat.reduceLT]
        refine row_i (List.map Def.ds v23007_95) (((putR_1 (set_at (row_m hv23002)) (d' := .gone) rfl).trans (List.set_set ..)).trans (by rw [← set1_some hv23007_95]; simp only [List.map_set, go_sem, Def.ds_eq])) ?_
        try simp only [go_sem, Nat.reduceEqDiff, reduceIte, Nat.reduceAdd, Nat.reduceMul, Nat.reduceLeDiff, Nat.reduceLT]
        obtain ⟨v24002, hv24002, h⟩ := bindE h
        refine idx_m hv24002 (Def.ds_len _) ?_
        try simp only [go_sem, Nat.reduceEqDiff, reduceIte, Nat.reduceAdd, Nat.reduceMul, Nat.reduceLeDiff, Nat.reduceLT]
        refine opt_i (row_m hv24002) ?_
        try simp only [go_sem, Nat.reduceEqDiff, reduceIte, Nat.reduceAdd, Nat.reduceMul, Nat.reduceLeDiff, Nat.reduceLT]
        obtain ⟨v24007, hv24007, h⟩ := bindE h
        obtain ⟨v24007_96, hv24007_96, h⟩ := bindE h
        refine call_g ⟨[(3000384112, .sub 1 0 [(12, Int.toNat p0_2, 11)], none)], [(1, 3000384112)], [], [], [], true⟩ (by kernel_rfl) (l_markTermS_ok fuel _ _ none _ hv24007) (by kernel_rfl) ?_
        try simp only [go_sem, Nat.reduceEqDiff, reduceIte, Nat.reduceAdd, Nat.reduceMul, Nat.reduceLeDiff, Nat.reduceLT]
        refine opt_i (getP_1 (r := List.map Term.ds v24002.body.kids) (row_m hv24002) (Def.ds_len _) (by simp only [go_sem, Def.ds_eq])) ?_
        try simp only [go_sem, Nat.reduceEqDiff, reduceIte, Nat.reduceAdd, Nat.reduceMul, Nat.reduceLeDiff, Nat.reduceLT]
        refine row_i ((List.map Def.ds v23007_95).set (Int.toNat p0_2) [.str v24002.name, .int .i64 v24002.typ.kind, .str v24002.typ.name, .sl (List.map TType.ds v24002.typ.kids), .int .i64 v24002.body.kind, .int .i64 v24002.body.num, .str v24002.body.name, .int .i64 v24002.body.typ.kind, .str v24002.body.typ.name, .sl (List.map TType.ds v24002.body.typ.kids), .sl (List.map strD v24002.body.names), .gone]) ((putR_1 (row_m hv24002) (d' := .sl (List.map Term.ds v24002.body.kids)) (by simp only [go_sem, Def.ds_eq])).trans (by simp only [go_sem, Def.ds_eq])) ?_
        try simp only [go_sem, Nat.reduceEqDiff, reduceIte, Nat.reduceAdd, Nat.reduceMul, Nat.reduceLeDiff, Nat.reduceLT]
        refine and_i (getC_1 (set_at (row_m hv24002)) rfl rfl) ?_
        try simp only [go_sem, Nat.reduceEqDiff, reduceIte, Nat.reduceAdd, Nat.reduceMul, Nat.reduceLeDiff, Nat.reduceLT]
        refine row_i (List.map Def.ds v24007_96) (((putR_1 (set_at (row_m hv24002)) (d' := .gone) rfl).trans (List.set_set ..)).trans (by rw [← set1_some hv24007_96]; simp only [List.map_set, go_sem, Def.ds_eq])) ?_
        try simp only [go_sem, Nat.reduceEqDiff, reduceIte, Nat.reduceAdd, Nat.reduceMul, Nat.reduceLeDiff, Nat.reduceLT]
        refine seq_go ?_
        try simp only [go_sem, Nat.reduceEqDiff, reduceIte, Nat.reduceAdd, Nat.reduceMul, Nat.reduceLeDiff, Nat.reduceLT]
        have hj := posG_to rfl rfl (ih0 v24007_96 v24007.1 (IntKind.i64.wrap (p0_2 + 1)) z1 _ h)
        refine lp_to hj (.one ⟨_, .done _, [(1, 1)], [], ?_⟩)
        clear hj
        try simp only [go_sem, Nat.reduceEqDiff, reduceIte, Nat.reduceAdd, Nat.reduceMul, Nat.reduceLeDiff, Nat.reduceLT]
      · replace h := ifF (c := (decide (p0_2 < ((List.length p0_0 : Nat) : Int)))) hb1 h
        try simp only [go_sem, Nat.reduceEqDiff, reduceIte, Nat.reduceAdd, Nat.reduceMul, Nat.reduceLeDiff, Nat.reduceLT]
        refine seq_go ?_
        try simp only [go_sem, Nat.reduceEqDiff, reduceIte, Nat.reduceAdd, Nat.reduceMul, Nat.reduceLeDiff, Nat.reduceLT]
        obtain rfl := Option.some.inj h
        refine ret_i (.done _) [(1, 1)] [] ?_
        simp only [go_sem, Nat.reduceEqDiff, reduceIte, Nat.reduceAdd, Nat.reduceMul, Nat.reduceLeDiff, Nat.reduceLT]
theorem l_markDefS_l1_ok (n : Nat) : (∀ (p0_0 : List Def) (p0_1 : Int) (p0_2 : Int) (z1 : Option Nat) (r : Int × (List Def)), l_markDefS_l1 n p0_0 p0_1 p0_2 = some r → posG Try.prog Try.f194 [1, 0, 1, 0] (.int .i64 r.1) [(1, ⟨List.map Def.ds r.2, z1, 0⟩)] [] ⟨[(0, .own 1), (1, .int .i64 p0_1), (5, .int .i64 p0_2)], [(1, some ⟨List.map Def.ds p0_0, z1, 0⟩)], []⟩) := (l_markDefS_l1_all n)

theorem l_markDefS_ok (a0 : List Def) (a1 : Int) (z1 : Option Nat) (r : Int × (List Def)) (h : l_markDefS a0 a1 = some r) : AG Try.prog 194 [.own 1, .int .i64 a1] [(1, ⟨List.map Def.ds a0, z1, 0⟩)] [] (.int .i64 r.1) [(1, ⟨List.map Def.ds r.2, z1, 0⟩)] [] := by
  unfold l_markDefS at h
  refine ag_fn mixed Try.func194 rfl rfl rfl (by kernel_rfl) (by kernel_rfl) ?_
  try simp only [go_sem, Nat.reduceEqDiff, reduceIte, Nat.reduceAdd, Nat.reduceMul, Nat.reduceLeDiff, Nat.reduceLT]
  have hj := posG_to rfl rfl (l_markDefS_l1_ok fuel a0 a1 0 z1 _ h)
  refine loop_to hj (.one ⟨_, .done _, [(1, 1)], [], ?_⟩)
  clear hj
  try simp only [go_sem, Nat.reduceEqDiff, reduceIte, Nat.reduceAdd, Nat.reduceMul, Nat.reduceLeDiff, Nat.reduceLT]
theorem l_markProgram_ok (a0 : TProgram) (a1 : Int) (z1 : Option Nat) (z2 : Option Nat) (r : Int × (List Data) × (List Def)) (h : l_markProgram a0 a1 = some r) : AG Try.prog 115 [.agg [.own 1, .own 2], .int .i64 a1] [(1, ⟨List.map Data.ds a0.datas, z1, 0⟩), (2, ⟨List.map Def.ds a0.defs, z2, 0⟩)] [] (.int .i64 r.1) [(1, ⟨List.map Data.ds r.2.1, z1, 0⟩), (2, ⟨List.map Def.ds r.2.2, z2, 0⟩)] [] := by
  unfold l_markProgram at h
  refine ag_fn mixed Try.func115 rfl rfl rfl (by kernel_rfl) (by kernel_rfl) ?_
  try simp only [go_sem, Nat.reduceEqDiff, reduceIte, Nat.reduceAdd, Nat.reduceMul, Nat.reduceLeDiff, Nat.reduceLT]
  obtain ⟨v2003, hv2003, h⟩ := bindE h
  refine call_g ⟨[], [(1, 1)], [], [], [], true⟩ (by kernel_rfl) (l_markDataS_ok _ _ z1 _ hv2003) (by kernel_rfl) ?_
  try simp only [go_sem, Nat.reduceEqDiff, reduceIte, Nat.reduceAdd, Nat.reduceMul, Nat.reduceLeDiff, Nat.reduceLT]
  obtain ⟨v3003, hv3003, h⟩ := bindE h
  refine call_g ⟨[], [(1, 2)], [], [], [], true⟩ (by kernel_rfl) (l_markDefS_ok _ _ z2 _ hv3003) (by kernel_rfl) ?_
  try simp only [go_sem, Nat.reduceEqDiff, reduceIte, Nat.reduceAdd, Nat.reduceMul, Nat.reduceLeDiff, Nat.reduceLT]
  obtain rfl := Option.some.inj h
  refine ret_i (.done _) [(1, 1), (2, 2)] [] ?_
  simp only [go_sem, Nat.reduceEqDiff, reduceIte, Nat.reduceAdd, Nat.reduceMul, Nat.reduceLeDiff, Nat.reduceLT]
theorem l_markDesk_ok (a0 : Desk) (a1 : Int) (z1 : Option Nat) (z2 : Option Nat) (z3 : Option Nat) (r : Int × (List Data) × (List Def) × (List Int)) (h : l_markDesk a0 a1 = some r) : AG Try.prog 54 [.agg [.bool a0.loaded, .own 1, .own 2, .own 3, .int .i64 a0.machines], .int .i64 a1] [(1, ⟨List.map Data.ds a0.program.datas, z1, 0⟩), (2, ⟨List.map Def.ds a0.program.defs, z2, 0⟩), (3, ⟨List.map i64D a0.schedule, z3, 0⟩)] [] (.int .i64 r.1) [(1, ⟨List.map Data.ds r.2.1, z1, 0⟩), (2, ⟨List.map Def.ds r.2.2.1, z2, 0⟩), (3, ⟨List.map i64D r.2.2.2, z3, 0⟩)] [] := by
  unfold l_markDesk at h
  refine ag_fn mixed Try.func54 rfl rfl rfl (by kernel_rfl) (by kernel_rfl) ?_
  try simp only [go_sem, Nat.reduceEqDiff, reduceIte, Nat.reduceAdd, Nat.reduceMul, Nat.reduceLeDiff, Nat.reduceLT]
  obtain ⟨v2003, hv2003, h⟩ := bindE h
  refine call_g ⟨[], [(1, 1), (2, 2)], [], [], [], true⟩ (by kernel_rfl) (l_markProgram_ok _ _ z1 z2 _ hv2003) (by kernel_rfl) ?_
  try simp only [go_sem, Nat.reduceEqDiff, reduceIte, Nat.reduceAdd, Nat.reduceMul, Nat.reduceLeDiff, Nat.reduceLT]
  obtain ⟨v3003, hv3003, h⟩ := bindE h
  refine call_g ⟨[], [(1, 3)], [], [], [], true⟩ (by kernel_rfl) (l_markInt64S_ok _ _ z3 _ hv3003) (by kernel_rfl) ?_
  try simp only [go_sem, Nat.reduceEqDiff, reduceIte, Nat.reduceAdd, Nat.reduceMul, Nat.reduceLeDiff, Nat.reduceLT]
  obtain rfl := Option.some.inj h
  refine ret_i (.done _) [(1, 1), (2, 2), (3, 3)] [] ?_
  simp only [go_sem, Nat.reduceEqDiff, reduceIte, Nat.reduceAdd, Nat.reduceMul, Nat.reduceLeDiff, Nat.reduceLT]
theorem l_heldInt64S_l1_all (n : Nat) : (∀ (a0 : List Int) (p0_0 : Int) (p0_1 : Int) (r : Int), l_heldInt64S_l1 n a0 p0_0 p0_1 = some r → posF Try.prog Try.f37 [1, 0, 1, 0] (.int .i64 r) ⟨[(0, .ro (List.map i64D a0)), (1, .int .i64 p0_0), (5, .int .i64 p0_1)], [], []⟩) := by
  induction n with
  | zero => exact ((fun _ _ _ _ h => by rw [l_heldInt64S_l1] at h; cases h))
  | succ n ih =>
    have ih0 := ih
    · intro a0 p0_0 p0_1 r h
      rw [l_heldInt64S_l1] at h
      refine posF_of rfl rfl ?_
      try simp only [go_sem, Nat.reduceEqDiff, reduceIte, Nat.reduceAdd, Nat.reduceMul, Nat.reduceLeDiff, Nat.reduceLT]
      refine loop_i ?_
      try simp only [go_sem, Nat.reduceEqDiff, reduceIte, Nat.reduceAdd, Nat.reduceMul, Nat.reduceLeDiff, Nat.reduceLT]
      refine cond_i (fun hb1 => ?_) (fun hb1 => ?_)
      · replace h := ifT (c := (decide (p0_1 < ((List.length a0 : Nat) : Int)))) hb1 h
        try simp only [go_sem, Nat.reduceEqDiff, reduceIte, Nat.reduceAdd, Nat.reduceMul, Nat.reduceLeDiff, Nat.reduceLT]
        refine seq_go ?_
        try simp only [go_sem, Nat.reduceEqDiff, reduceIte, Nat.reduceAdd, Nat.reduceMul, Nat.reduceLeDiff, Nat.reduceLT]
        obtain ⟨v5002, hv5002, h⟩ := bindE h
        refine idx_m hv5002 rfl ?_
        try simp only [go_sem, Nat.reduceEqDiff, reduceIte, Nat.reduceAdd, Nat.reduceMul, Nat.reduceLeDiff, Nat.reduceLT]
        refine cond_i (fun hb2 => ?_) (fun hb2 => ?_)
        · replace h := ifT (c := (!decide (v5002 = p0_0))) hb2 h
          try simp only [go_sem, Nat.reduceEqDiff, reduceIte, Nat.reduceAdd, Nat.reduceMul, Nat.reduceLeDiff, Nat.reduceLT]
          obtain rfl := Option.some.inj h
          simp only [go_sem, Nat.reduceEqDiff, reduceIte, Nat.reduceAdd, Nat.reduceMul, Nat.reduceLeDiff, Nat.reduceLT]
        · replace h := ifF (c := (!decide (v5002 = p0_0))) hb2 h
          try simp only [go_sem, Nat.reduceEqDiff, reduceIte, Nat.reduceAdd, Nat.reduceMul, Nat.reduceLeDiff, Nat.reduceLT]
          refine seq_go ?_
          try simp only [go_sem, Nat.reduceEqDiff, reduceIte, Nat.reduceAdd, Nat.reduceMul, Nat.reduceLeDiff, Nat.reduceLT]
          refine seq_go ?_
          try simp only [go_sem, Nat.reduceEqDiff, reduceIte, Nat.reduceAdd, Nat.reduceMul, Nat.reduceLeDiff, Nat.reduceLT]
          have hj := posF_to rfl rfl (ih0 a0 (IntKind.i64.wrap (p0_0 + 1)) (IntKind.i64.wrap (p0_1 + 1)) _ h)
          refine lp_to hj (.one ⟨_, .done _, [], [], ?_⟩)
          clear hj
          try simp only [go_sem, Nat.reduceEqDiff, reduceIte, Nat.reduceAdd, Nat.reduceMul, Nat.reduceLeDiff, Nat.reduceLT]
      · replace h := ifF (c := (decide (p0_1 < ((List.length a0 : Nat) : Int)))) hb1 h
        try simp only [go_sem, Nat.reduceEqDiff, reduceIte, Nat.reduceAdd, Nat.reduceMul, Nat.reduceLeDiff, Nat.reduceLT]
        refine seq_go ?_
        try simp only [go_sem, Nat.reduceEqDiff, reduceIte, Nat.reduceAdd, Nat.reduceMul, Nat.reduceLeDiff, Nat.reduceLT]
        obtain rfl := Option.some.inj h
        simp only [go_sem, Nat.reduceEqDiff, reduceIte, Nat.reduceAdd, Nat.reduceMul, Nat.reduceLeDiff, Nat.reduceLT]
theorem l_heldInt64S_l1_ok (n : Nat) : (∀ (a0 : List Int) (p0_0 : Int) (p0_1 : Int) (r : Int), l_heldInt64S_l1 n a0 p0_0 p0_1 = some r → posF Try.prog Try.f37 [1, 0, 1, 0] (.int .i64 r) ⟨[(0, .ro (List.map i64D a0)), (1, .int .i64 p0_0), (5, .int .i64 p0_1)], [], []⟩) := (l_heldInt64S_l1_all n)

theorem l_heldInt64S_ok (a0 : List Int) (a1 : Int) (r : Int) (h : l_heldInt64S a0 a1 = some r) : AC Try.prog 37 [.ro (List.map i64D a0), .int .i64 a1] (.int .i64 r) := by
  unfold l_heldInt64S at h
  refine ac_fn mixed Try.func37 rfl rfl rfl (by kernel_rfl) (by kernel_rfl) ?_
  try simp only [go_sem, Nat.reduceEqDiff, reduceIte, Nat.reduceAdd, Nat.reduceMul, Nat.reduceLeDiff, Nat.reduceLT]
  have hj := posF_to rfl rfl (l_heldInt64S_l1_ok fuel a0 a1 0 _ h)
  refine loop_to hj (.one ⟨_, .done _, [], [], ?_⟩)
  clear hj
  try simp only [go_sem, Nat.reduceEqDiff, reduceIte, Nat.reduceAdd, Nat.reduceMul, Nat.reduceLeDiff, Nat.reduceLT]
theorem l_heldTypeS_all (n : Nat) : (∀ (a0 : List TType) (a1 : Int) (r : Int), l_heldTypeS n a0 a1 = some r → AC Try.prog 241 [.ro (List.map TType.ds a0), .int .i64 a1] (.int .i64 r)) ∧
    (∀ (a0 : List TType) (p0_0 : Int) (p0_1 : Int) (r : Int), l_heldTypeS_l1 n a0 p0_0 p0_1 = some r → posF Try.prog Try.f241 [1, 0, 1, 0] (.int .i64 r) ⟨[(0, .ro (List.map TType.ds a0)), (1, .int .i64 p0_0), (5, .int .i64 p0_1)], [], []⟩) := by
  induction n with
  | zero => exact ⟨(fun _ _ _ h => by rw [l_heldTypeS] at h; cases h), (fun _ _ _ _ h => by rw [l_heldTypeS_l1] at h; cases h)⟩
  | succ n ih =>
    obtain ⟨ih0, ih1⟩ := ih
    refine ⟨?_, ?_⟩
    · intro a0 a1 r h
      rw [l_heldTypeS] at h
      refine ac_fn mixed Try.func241 rfl rfl rfl (by kernel_rfl) (by kernel_rfl) ?_
      try simp only [go_sem, Nat.reduceEqDiff, reduceIte, Nat.reduceAdd, Nat.reduceMul, Nat.reduceLeDiff, Nat.reduceLT]
      have hj := posF_to rfl rfl (ih1 a0 a1 0 _ h)
      refine loop_to hj (.one ⟨_, .done _, [], [], ?_⟩)
      clear hj
      try simp only [go_sem, Nat.reduceEqDiff, reduceIte, Nat.reduceAdd, Nat.reduceMul, Nat.reduceLeDiff, Nat.reduceLT]
    · intro a0 p0_0 p0_1 r h
      rw [l_heldTypeS_l1] at h
      refine posF_of rfl rfl ?_
      try simp only [go_sem, Nat.reduceEqDiff, reduceIte, Nat.reduceAdd, Nat.reduceMul, Nat.reduceLeDiff, Nat.reduceLT]
      refine loop_i ?_
      try simp only [go_sem, Nat.reduceEqDiff, reduceIte, Nat.reduceAdd, Nat.reduceMul, Nat.reduceLeDiff, Nat.reduceLT]
      refine cond_i (fun hb1 => ?_) (fun hb1 => ?_)
      · replace h := ifT (c := (decide (p0_1 < ((List.length a0 : Nat) : Int)))) hb1 h
        try simp only [go_sem, Nat.reduceEqDiff, reduceIte, Nat.reduceAdd, Nat.reduceMul, Nat.reduceLeDiff, Nat.reduceLT]
        refine seq_go ?_
        try simp only [go_sem, Nat.reduceEqDiff, reduceIte, Nat.reduceAdd, Nat.reduceMul, Nat.reduceLeDiff, Nat.reduceLT]
        obtain ⟨v5002, hv5002, h⟩ := bindE h
        refine idx_m hv5002 (TType.ds_len _) ?_
        try simp only [go_sem, Nat.reduceEqDiff, reduceIte, Nat.reduceAdd, Nat.reduceMul, Nat.reduceLeDiff, Nat.reduceLT]
        refine cond_i (fun hb2 => ?_) (fun hb2 => ?_)
        · replace h := ifT (c := (!decide (v5002.kind = p0_0))) hb2 h
          try simp only [go_sem, Nat.reduceEqDiff, reduceIte, Nat.reduceAdd, Nat.reduceMul, Nat.reduceLeDiff, Nat.reduceLT]
          obtain rfl := Option.some.inj h
          simp only [go_sem, Nat.reduceEqDiff, reduceIte, Nat.reduceAdd, Nat.reduceMul, Nat.reduceLeDiff, Nat.reduceLT]
        · replace h := ifF (c := (!decide (v5002.kind = p0_0))) hb2 h
          try simp only [go_sem, Nat.reduceEqDiff, reduceIte, Nat.reduceAdd, Nat.reduceMul, Nat.reduceLeDiff, Nat.reduceLT]
          refine seq_go ?_
          try simp only [go_sem, Nat.reduceEqDiff, reduceIte, Nat.reduceAdd, Nat.reduceMul, Nat.reduceLeDiff, Nat.reduceLT]
          obtain ⟨v8002, hv8002, h⟩ := bindE h
          refine idx_m hv8002 (TType.ds_len _) ?_
          try simp only [go_sem, Nat.reduceEqDiff, reduceIte, Nat.reduceAdd, Nat.reduceMul, Nat.reduceLeDiff, Nat.reduceLT]
          obtain ⟨v8006, hv8006, h⟩ := bindE h
          refine call_i (l_markText_ok _ _ hv8006) ?_
          try simp only [go_sem, Nat.reduceEqDiff, reduceIte, Nat.reduceAdd, Nat.reduceMul, Nat.reduceLeDiff, Nat.reduceLT]
          refine cond_i (fun hb3 => ?_) (fun hb3 => ?_)
          · replace h := ifT (c := (!sameStr v8002.name v8006)) hb3 h
            try simp only [go_sem, Nat.reduceEqDiff, reduceIte, Nat.reduceAdd, Nat.reduceMul, Nat.reduceLeDiff, Nat.reduceLT]
            obtain rfl := Option.some.inj h
            simp only [go_sem, Nat.reduceEqDiff, reduceIte, Nat.reduceAdd, Nat.reduceMul, Nat.reduceLeDiff, Nat.reduceLT]
          · replace h := ifF (c := (!sameStr v8002.name v8006)) hb3 h
            try simp only [go_sem, Nat.reduceEqDiff, reduceIte, Nat.reduceAdd, Nat.reduceMul, Nat.reduceLeDiff, Nat.reduceLT]
            refine seq_go ?_
            try simp only [go_sem, Nat.reduceEqDiff, reduceIte, Nat.reduceAdd, Nat.reduceMul, Nat.reduceLeDiff, Nat.reduceLT]
            obtain ⟨v11002, hv11002, h⟩ := bindE h
            refine idx_m hv11002 (TType.ds_len _) ?_
            try simp only [go_sem, Nat.reduceEqDiff, reduceIte, Nat.reduceAdd, Nat.reduceMul, Nat.reduceLeDiff, Nat.reduceLT]
            obtain ⟨v11006, hv11006, h⟩ := bindE h
            refine call_i (ih0 _ _ _ hv11006) ?_
            try simp only [go_sem, Nat.reduceEqDiff, reduceIte, Nat.reduceAdd, Nat.reduceMul, Nat.reduceLeDiff, Nat.reduceLT]
            refine cond_i (fun hb4 => ?_) (fun hb4 => ?_)
            · replace h := ifT (c := (decide (v11006 < 0))) hb4 h
              try simp only [go_sem, Nat.reduceEqDiff, reduceIte, Nat.reduceAdd, Nat.reduceMul, Nat.reduceLeDiff, Nat.reduceLT]
              obtain rfl := Option.some.inj h
              simp only [go_sem, Nat.reduceEqDiff, reduceIte, Nat.reduceAdd, Nat.reduceMul, Nat.reduceLeDiff, Nat.reduceLT]
            · replace h := ifF (c := (decide (v11006 < 0))) hb4 h
              try simp only [go_sem, Nat.reduceEqDiff, reduceIte, Nat.reduceAdd, Nat.reduceMul, Nat.reduceLeDiff, Nat.reduceLT]
              refine seq_go ?_
              try simp only [go_sem, Nat.reduceEqDiff, reduceIte, Nat.reduceAdd, Nat.reduceMul, Nat.reduceLeDiff, Nat.reduceLT]
              have hj := posF_to rfl rfl (ih1 a0 v11006 (IntKind.i64.wrap (p0_1 + 1)) _ h)
              refine lp_to hj (.one ⟨_, .done _, [], [], ?_⟩)
              clear hj
              try simp only [go_sem, Nat.reduceEqDiff, reduceIte, Nat.reduceAdd, Nat.reduceMul, Nat.reduceLeDiff, Nat.reduceLT]
      · replace h := ifF (c := (decide (p0_1 < ((List.length a0 : Nat) : Int)))) hb1 h
        try simp only [go_sem, Nat.reduceEqDiff, reduceIte, Nat.reduceAdd, Nat.reduceMul, Nat.reduceLeDiff, Nat.reduceLT]
        refine seq_go ?_
        try simp only [go_sem, Nat.reduceEqDiff, reduceIte, Nat.reduceAdd, Nat.reduceMul, Nat.reduceLeDiff, Nat.reduceLT]
        obtain rfl := Option.some.inj h
        simp only [go_sem, Nat.reduceEqDiff, reduceIte, Nat.reduceAdd, Nat.reduceMul, Nat.reduceLeDiff, Nat.reduceLT]
theorem l_heldTypeS_ok (n : Nat) : (∀ (a0 : List TType) (a1 : Int) (r : Int), l_heldTypeS n a0 a1 = some r → AC Try.prog 241 [.ro (List.map TType.ds a0), .int .i64 a1] (.int .i64 r)) := (l_heldTypeS_all n).1
theorem l_heldTypeS_l1_ok (n : Nat) : (∀ (a0 : List TType) (p0_0 : Int) (p0_1 : Int) (r : Int), l_heldTypeS_l1 n a0 p0_0 p0_1 = some r → posF Try.prog Try.f241 [1, 0, 1, 0] (.int .i64 r) ⟨[(0, .ro (List.map TType.ds a0)), (1, .int .i64 p0_0), (5, .int .i64 p0_1)], [], []⟩) := (l_heldTypeS_all n).2

theorem l_heldConstructorS_l1_all (n : Nat) : (∀ (a0 : List Constructor) (p0_0 : Int) (p0_1 : Int) (r : Int), l_heldConstructorS_l1 n a0 p0_0 p0_1 = some r → posF Try.prog Try.f240 [1, 0, 1, 0] (.int .i64 r) ⟨[(0, .ro (List.map Constructor.ds a0)), (1, .int .i64 p0_0), (5, .int .i64 p0_1)], [], []⟩) := by
  induction n with
  | zero => exact ((fun _ _ _ _ h => by rw [l_heldConstructorS_l1] at h; cases h))
  | succ n ih =>
    have ih0 := ih
    · intro a0 p0_0 p0_1 r h
      rw [l_heldConstructorS_l1] at h
      refine posF_of rfl rfl ?_
      try simp only [go_sem, Nat.reduceEqDiff, reduceIte, Nat.reduceAdd, Nat.reduceMul, Nat.reduceLeDiff, Nat.reduceLT]
      refine loop_i ?_
      try simp only [go_sem, Nat.reduceEqDiff, reduceIte, Nat.reduceAdd, Nat.reduceMul, Nat.reduceLeDiff, Nat.reduceLT]
      refine cond_i (fun hb1 => ?_) (fun hb1 => ?_)
      · replace h := ifT (c := (decide (p0_1 < ((List.length a0 : Nat) : Int)))) hb1 h
        try simp only [go_sem, Nat.reduceEqDiff, reduceIte, Nat.reduceAdd, Nat.reduceMul, Nat.reduceLeDiff, Nat.reduceLT]
        refine seq_go ?_
        try simp only [go_sem, Nat.reduceEqDiff, reduceIte, Nat.reduceAdd, Nat.reduceMul, Nat.reduceLeDiff, Nat.reduceLT]
        obtain ⟨v5002, hv5002, h⟩ := bindE h
        refine idx_m hv5002 (Constructor.ds_len _) ?_
        try simp only [go_sem, Nat.reduceEqDiff, reduceIte, Nat.reduceAdd, Nat.reduceMul, Nat.reduceLeDiff, Nat.reduceLT]
        obtain ⟨v5006, hv5006, h⟩ := bindE h
        refine call_i (l_markText_ok _ _ hv5006) ?_
        try simp only [go_sem, Nat.reduceEqDiff, reduceIte, Nat.reduceAdd, Nat.reduceMul, Nat.reduceLeDiff, Nat.reduceLT]
        refine cond_i (fun hb2 => ?_) (fun hb2 => ?_)
        · replace h := ifT (c := (!sameStr v5002.name v5006)) hb2 h
          try simp only [go_sem, Nat.reduceEqDiff, reduceIte, Nat.reduceAdd, Nat.reduceMul, Nat.reduceLeDiff, Nat.reduceLT]
          obtain rfl := Option.some.inj h
          simp only [go_sem, Nat.reduceEqDiff, reduceIte, Nat.reduceAdd, Nat.reduceMul, Nat.reduceLeDiff, Nat.reduceLT]
        · replace h := ifF (c := (!sameStr v5002.name v5006)) hb2 h
          try simp only [go_sem, Nat.reduceEqDiff, reduceIte, Nat.reduceAdd, Nat.reduceMul, Nat.reduceLeDiff, Nat.reduceLT]
          refine seq_go ?_
          try simp only [go_sem, Nat.reduceEqDiff, reduceIte, Nat.reduceAdd, Nat.reduceMul, Nat.reduceLeDiff, Nat.reduceLT]
          obtain ⟨v8002, hv8002, h⟩ := bindE h
          refine idx_m hv8002 (Constructor.ds_len _) ?_
          try simp only [go_sem, Nat.reduceEqDiff, reduceIte, Nat.reduceAdd, Nat.reduceMul, Nat.reduceLeDiff, Nat.reduceLT]
          obtain ⟨v8006, hv8006, h⟩ := bindE h
          refine call_i (l_heldTypeS_ok fuel _ _ _ hv8006) ?_
          try simp only [go_sem, Nat.reduceEqDiff, reduceIte, Nat.reduceAdd, Nat.reduceMul, Nat.reduceLeDiff, Nat.reduceLT]
          refine cond_i (fun hb3 => ?_) (fun hb3 => ?_)
          · replace h := ifT (c := (decide (v8006 < 0))) hb3 h
            try simp only [go_sem, Nat.reduceEqDiff, reduceIte, Nat.reduceAdd, Nat.reduceMul, Nat.reduceLeDiff, Nat.reduceLT]
            obtain rfl := Option.some.inj h
            simp only [go_sem, Nat.reduceEqDiff, reduceIte, Nat.reduceAdd, Nat.reduceMul, Nat.reduceLeDiff, Nat.reduceLT]
          · replace h := ifF (c := (decide (v8006 < 0))) hb3 h
            try simp only [go_sem, Nat.reduceEqDiff, reduceIte, Nat.reduceAdd, Nat.reduceMul, Nat.reduceLeDiff, Nat.reduceLT]
            refine seq_go ?_
            try simp only [go_sem, Nat.reduceEqDiff, reduceIte, Nat.reduceAdd, Nat.reduceMul, Nat.reduceLeDiff, Nat.reduceLT]
            have hj := posF_to rfl rfl (ih0 a0 v8006 (IntKind.i64.wrap (p0_1 + 1)) _ h)
            refine lp_to hj (.one ⟨_, .done _, [], [], ?_⟩)
            clear hj
            try simp only [go_sem, Nat.reduceEqDiff, reduceIte, Nat.reduceAdd, Nat.reduceMul, Nat.reduceLeDiff, Nat.reduceLT]
      · replace h := ifF (c := (decide (p0_1 < ((List.length a0 : Nat) : Int)))) hb1 h
        try simp only [go_sem, Nat.reduceEqDiff, reduceIte, Nat.reduceAdd, Nat.reduceMul, Nat.reduceLeDiff, Nat.reduceLT]
        refine seq_go ?_
        try simp only [go_sem, Nat.reduceEqDiff, reduceIte, Nat.reduceAdd, Nat.reduceMul, Nat.reduceLeDiff, Nat.reduceLT]
        obtain rfl := Option.some.inj h
        simp only [go_sem, Nat.reduceEqDiff, reduceIte, Nat.reduceAdd, Nat.reduceMul, Nat.reduceLeDiff, Nat.reduceLT]
theorem l_heldConstructorS_l1_ok (n : Nat) : (∀ (a0 : List Constructor) (p0_0 : Int) (p0_1 : Int) (r : Int), l_heldConstructorS_l1 n a0 p0_0 p0_1 = some r → posF Try.prog Try.f240 [1, 0, 1, 0] (.int .i64 r) ⟨[(0, .ro (List.map Constructor.ds a0)), (1, .int .i64 p0_0), (5, .int .i64 p0_1)], [], []⟩) := (l_heldConstructorS_l1_all n)

theorem l_heldConstructorS_ok (a0 : List Constructor) (a1 : Int) (r : Int) (h : l_heldConstructorS a0 a1 = some r) : AC Try.prog 240 [.ro (List.map Constructor.ds a0), .int .i64 a1] (.int .i64 r) := by
  unfold l_heldConstructorS at h
  refine ac_fn mixed Try.func240 rfl rfl rfl (by kernel_rfl) (by kernel_rfl) ?_
  try simp only [go_sem, Nat.reduceEqDiff, reduceIte, Nat.reduceAdd, Nat.reduceMul, Nat.reduceLeDiff, Nat.reduceLT]
  have hj := posF_to rfl rfl (l_heldConstructorS_l1_ok fuel a0 a1 0 _ h)
  refine loop_to hj (.one ⟨_, .done _, [], [], ?_⟩)
  clear hj
  try simp only [go_sem, Nat.reduceEqDiff, reduceIte, Nat.reduceAdd, Nat.reduceMul, Nat.reduceLeDiff, Nat.reduceLT]
theorem l_heldDataS_l1_all (n : Nat) : (∀ (a0 : List Data) (p0_0 : Int) (p0_1 : Int) (r : Int), l_heldDataS_l1 n a0 p0_0 p0_1 = some r → posF Try.prog Try.f195 [1, 0, 1, 0] (.int .i64 r) ⟨[(0, .ro (List.map Data.ds a0)), (1, .int .i64 p0_0), (5, .int .i64 p0_1)], [], []⟩) := by
  induction n with
  | zero => exact ((fun _ _ _ _ h => by rw [l_heldDataS_l1] at h; cases h))
  | succ n ih =>
    have ih0 := ih
    · intro a0 p0_0 p0_1 r h
      rw [l_heldDataS_l1] at h
      refine posF_of rfl rfl ?_
      try simp only [go_sem, Nat.reduceEqDiff, reduceIte, Nat.reduceAdd, Nat.reduceMul, Nat.reduceLeDiff, Nat.reduceLT]
      refine loop_i ?_
      try simp only [go_sem, Nat.reduceEqDiff, reduceIte, Nat.reduceAdd, Nat.reduceMul, Nat.reduceLeDiff, Nat.reduceLT]
      refine cond_i (fun hb1 => ?_) (fun hb1 => ?_)
      · replace h := ifT (c := (decide (p0_1 < ((List.length a0 : Nat) : Int)))) hb1 h
        try simp only [go_sem, Nat.reduceEqDiff, reduceIte, Nat.reduceAdd, Nat.reduceMul, Nat.reduceLeDiff, Nat.reduceLT]
        refine seq_go ?_
        try simp only [go_sem, Nat.reduceEqDiff, reduceIte, Nat.reduceAdd, Nat.reduceMul, Nat.reduceLeDiff, Nat.reduceLT]
        obtain ⟨v5002, hv5002, h⟩ := bindE h
        refine idx_m hv5002 (Data.ds_len _) ?_
        try simp only [go_sem, Nat.reduceEqDiff, reduceIte, Nat.reduceAdd, Nat.reduceMul, Nat.reduceLeDiff, Nat.reduceLT]
        obtain ⟨v5006, hv5006, h⟩ := bindE h
        refine call_i (l_markText_ok _ _ hv5006) ?_
        try simp only [go_sem, Nat.reduceEqDiff, reduceIte, Nat.reduceAdd, Nat.reduceMul, Nat.reduceLeDiff, Nat.reduceLT]
        refine cond_i (fun hb2 => ?_) (fun hb2 => ?_)
        · replace h := ifT (c := (!sameStr v5002.name v5006)) hb2 h
          try simp only [go_sem, Nat.reduceEqDiff, reduceIte, Nat.reduceAdd, Nat.reduceMul, Nat.reduceLeDiff, Nat.reduceLT]
          obtain rfl := Option.some.inj h
          simp only [go_sem, Nat.reduceEqDiff, reduceIte, Nat.reduceAdd, Nat.reduceMul, Nat.reduceLeDiff, Nat.reduceLT]
        · replace h := ifF (c := (!sameStr v5002.name v5006)) hb2 h
          try simp only [go_sem, Nat.reduceEqDiff, reduceIte, Nat.reduceAdd, Nat.reduceMul, Nat.reduceLeDiff, Nat.reduceLT]
          refine seq_go ?_
          try simp only [go_sem, Nat.reduceEqDiff, reduceIte, Nat.reduceAdd, Nat.reduceMul, Nat.reduceLeDiff, Nat.reduceLT]
          obtain ⟨v8002, hv8002, h⟩ := bindE h
          refine idx_m hv8002 (Data.ds_len _) ?_
          try simp only [go_sem, Nat.reduceEqDiff, reduceIte, Nat.reduceAdd, Nat.reduceMul, Nat.reduceLeDiff, Nat.reduceLT]
          obtain ⟨v8006, hv8006, h⟩ := bindE h
          refine call_i (l_heldConstructorS_ok _ _ _ hv8006) ?_
          try simp only [go_sem, Nat.reduceEqDiff, reduceIte, Nat.reduceAdd, Nat.reduceMul, Nat.reduceLeDiff, Nat.reduceLT]
          refine cond_i (fun hb3 => ?_) (fun hb3 => ?_)
          · replace h := ifT (c := (decide (v8006 < 0))) hb3 h
            try simp only [go_sem, Nat.reduceEqDiff, reduceIte, Nat.reduceAdd, Nat.reduceMul, Nat.reduceLeDiff, Nat.reduceLT]
            obtain rfl := Option.some.inj h
            simp only [go_sem, Nat.reduceEqDiff, reduceIte, Nat.reduceAdd, Nat.reduceMul, Nat.reduceLeDiff, Nat.reduceLT]
          · replace h := ifF (c := (decide (v8006 < 0))) hb3 h
            try simp only [go_sem, Nat.reduceEqDiff, reduceIte, Nat.reduceAdd, Nat.reduceMul, Nat.reduceLeDiff, Nat.reduceLT]
            refine seq_go ?_
            try simp only [go_sem, Nat.reduceEqDiff, reduceIte, Nat.reduceAdd, Nat.reduceMul, Nat.reduceLeDiff, Nat.reduceLT]
            have hj := posF_to rfl rfl (ih0 a0 v8006 (IntKind.i64.wrap (p0_1 + 1)) _ h)
            refine lp_to hj (.one ⟨_, .done _, [], [], ?_⟩)
            clear hj
            try simp only [go_sem, Nat.reduceEqDiff, reduceIte, Nat.reduceAdd, Nat.reduceMul, Nat.reduceLeDiff, Nat.reduceLT]
      · replace h := ifF (c := (decide (p0_1 < ((List.length a0 : Nat) : Int)))) hb1 h
        try simp only [go_sem, Nat.reduceEqDiff, reduceIte, Nat.reduceAdd, Nat.reduceMul, Nat.reduceLeDiff, Nat.reduceLT]
        refine seq_go ?_
        try simp only [go_sem, Nat.reduceEqDiff, reduceIte, Nat.reduceAdd, Nat.reduceMul, Nat.reduceLeDiff, Nat.reduceLT]
        obtain rfl := Option.some.inj h
        simp only [go_sem, Nat.reduceEqDiff, reduceIte, Nat.reduceAdd, Nat.reduceMul, Nat.reduceLeDiff, Nat.reduceLT]
theorem l_heldDataS_l1_ok (n : Nat) : (∀ (a0 : List Data) (p0_0 : Int) (p0_1 : Int) (r : Int), l_heldDataS_l1 n a0 p0_0 p0_1 = some r → posF Try.prog Try.f195 [1, 0, 1, 0] (.int .i64 r) ⟨[(0, .ro (List.map Data.ds a0)), (1, .int .i64 p0_0), (5, .int .i64 p0_1)], [], []⟩) := (l_heldDataS_l1_all n)

theorem l_heldDataS_ok (a0 : List Data) (a1 : Int) (r : Int) (h : l_heldDataS a0 a1 = some r) : AC Try.prog 195 [.ro (List.map Data.ds a0), .int .i64 a1] (.int .i64 r) := by
  unfold l_heldDataS at h
  refine ac_fn mixed Try.func195 rfl rfl rfl (by kernel_rfl) (by kernel_rfl) ?_
  try simp only [go_sem, Nat.reduceEqDiff, reduceIte, Nat.reduceAdd, Nat.reduceMul, Nat.reduceLeDiff, Nat.reduceLT]
  have hj := posF_to rfl rfl (l_heldDataS_l1_ok fuel a0 a1 0 _ h)
  refine loop_to hj (.one ⟨_, .done _, [], [], ?_⟩)
  clear hj
  try simp only [go_sem, Nat.reduceEqDiff, reduceIte, Nat.reduceAdd, Nat.reduceMul, Nat.reduceLeDiff, Nat.reduceLT]
theorem l_heldStringS_l1_all (n : Nat) : (∀ (a0 : List ByteArray) (p0_0 : Int) (p0_1 : Int) (r : Int), l_heldStringS_l1 n a0 p0_0 p0_1 = some r → posF Try.prog Try.f242 [1, 0, 1, 0] (.int .i64 r) ⟨[(0, .ro (List.map strD a0)), (1, .int .i64 p0_0), (5, .int .i64 p0_1)], [], []⟩) := by
  induction n with
  | zero => exact ((fun _ _ _ _ h => by rw [l_heldStringS_l1] at h; cases h))
  | succ n ih =>
    have ih0 := ih
    · intro a0 p0_0 p0_1 r h
      rw [l_heldStringS_l1] at h
      refine posF_of rfl rfl ?_
      try simp only [go_sem, Nat.reduceEqDiff, reduceIte, Nat.reduceAdd, Nat.reduceMul, Nat.reduceLeDiff, Nat.reduceLT]
      refine loop_i ?_
      try simp only [go_sem, Nat.reduceEqDiff, reduceIte, Nat.reduceAdd, Nat.reduceMul, Nat.reduceLeDiff, Nat.reduceLT]
      refine cond_i (fun hb1 => ?_) (fun hb1 => ?_)
      · replace h := ifT (c := (decide (p0_1 < ((List.length a0 : Nat) : Int)))) hb1 h
        try simp only [go_sem, Nat.reduceEqDiff, reduceIte, Nat.reduceAdd, Nat.reduceMul, Nat.reduceLeDiff, Nat.reduceLT]
        refine seq_go ?_
        try simp only [go_sem, Nat.reduceEqDiff, reduceIte, Nat.reduceAdd, Nat.reduceMul, Nat.reduceLeDiff, Nat.reduceLT]
        obtain ⟨v5002, hv5002, h⟩ := bindE h
        refine idx_m hv5002 rfl ?_
        try simp only [go_sem, Nat.reduceEqDiff, reduceIte, Nat.reduceAdd, Nat.reduceMul, Nat.reduceLeDiff, Nat.reduceLT]
        obtain ⟨v5005, hv5005, h⟩ := bindE h
        refine call_i (l_markText_ok _ _ hv5005) ?_
        try simp only [go_sem, Nat.reduceEqDiff, reduceIte, Nat.reduceAdd, Nat.reduceMul, Nat.reduceLeDiff, Nat.reduceLT]
        refine cond_i (fun hb2 => ?_) (fun hb2 => ?_)
        · replace h := ifT (c := (!sameStr v5002 v5005)) hb2 h
          try simp only [go_sem, Nat.reduceEqDiff, reduceIte, Nat.reduceAdd, Nat.reduceMul, Nat.reduceLeDiff, Nat.reduceLT]
          obtain rfl := Option.some.inj h
          simp only [go_sem, Nat.reduceEqDiff, reduceIte, Nat.reduceAdd, Nat.reduceMul, Nat.reduceLeDiff, Nat.reduceLT]
        · replace h := ifF (c := (!sameStr v5002 v5005)) hb2 h
          try simp only [go_sem, Nat.reduceEqDiff, reduceIte, Nat.reduceAdd, Nat.reduceMul, Nat.reduceLeDiff, Nat.reduceLT]
          refine seq_go ?_
          try simp only [go_sem, Nat.reduceEqDiff, reduceIte, Nat.reduceAdd, Nat.reduceMul, Nat.reduceLeDiff, Nat.reduceLT]
          refine seq_go ?_
          try simp only [go_sem, Nat.reduceEqDiff, reduceIte, Nat.reduceAdd, Nat.reduceMul, Nat.reduceLeDiff, Nat.reduceLT]
          have hj := posF_to rfl rfl (ih0 a0 (IntKind.i64.wrap (p0_0 + 1)) (IntKind.i64.wrap (p0_1 + 1)) _ h)
          refine lp_to hj (.one ⟨_, .done _, [], [], ?_⟩)
          clear hj
          try simp only [go_sem, Nat.reduceEqDiff, reduceIte, Nat.reduceAdd, Nat.reduceMul, Nat.reduceLeDiff, Nat.reduceLT]
      · replace h := ifF (c := (decide (p0_1 < ((List.length a0 : Nat) : Int)))) hb1 h
        try simp only [go_sem, Nat.reduceEqDiff, reduceIte, Nat.reduceAdd, Nat.reduceMul, Nat.reduceLeDiff, Nat.reduceLT]
        refine seq_go ?_
        try simp only [go_sem, Nat.reduceEqDiff, reduceIte, Nat.reduceAdd, Nat.reduceMul, Nat.reduceLeDiff, Nat.reduceLT]
        obtain rfl := Option.some.inj h
        simp only [go_sem, Nat.reduceEqDiff, reduceIte, Nat.reduceAdd, Nat.reduceMul, Nat.reduceLeDiff, Nat.reduceLT]
theorem l_heldStringS_l1_ok (n : Nat) : (∀ (a0 : List ByteArray) (p0_0 : Int) (p0_1 : Int) (r : Int), l_heldStringS_l1 n a0 p0_0 p0_1 = some r → posF Try.prog Try.f242 [1, 0, 1, 0] (.int .i64 r) ⟨[(0, .ro (List.map strD a0)), (1, .int .i64 p0_0), (5, .int .i64 p0_1)], [], []⟩) := (l_heldStringS_l1_all n)

theorem l_heldStringS_ok (a0 : List ByteArray) (a1 : Int) (r : Int) (h : l_heldStringS a0 a1 = some r) : AC Try.prog 242 [.ro (List.map strD a0), .int .i64 a1] (.int .i64 r) := by
  unfold l_heldStringS at h
  refine ac_fn mixed Try.func242 rfl rfl rfl (by kernel_rfl) (by kernel_rfl) ?_
  try simp only [go_sem, Nat.reduceEqDiff, reduceIte, Nat.reduceAdd, Nat.reduceMul, Nat.reduceLeDiff, Nat.reduceLT]
  have hj := posF_to rfl rfl (l_heldStringS_l1_ok fuel a0 a1 0 _ h)
  refine loop_to hj (.one ⟨_, .done _, [], [], ?_⟩)
  clear hj
  try simp only [go_sem, Nat.reduceEqDiff, reduceIte, Nat.reduceAdd, Nat.reduceMul, Nat.reduceLeDiff, Nat.reduceLT]
theorem l_heldTermS_all (n : Nat) : (∀ (a0 : List Term) (a1 : Int) (r : Int), l_heldTermS n a0 a1 = some r → AC Try.prog 243 [.ro (List.map Term.ds a0), .int .i64 a1] (.int .i64 r)) ∧
    (∀ (a0 : List Term) (p0_0 : Int) (p0_1 : Int) (r : Int), l_heldTermS_l1 n a0 p0_0 p0_1 = some r → posF Try.prog Try.f243 [1, 0, 1, 0] (.int .i64 r) ⟨[(0, .ro (List.map Term.ds a0)), (1, .int .i64 p0_0), (5, .int .i64 p0_1)], [], []⟩) := by
  induction n with
  | zero => exact ⟨(fun _ _ _ h => by rw [l_heldTermS] at h; cases h), (fun _ _ _ _ h => by rw [l_heldTermS_l1] at h; cases h)⟩
  | succ n ih =>
    obtain ⟨ih0, ih1⟩ := ih
    refine ⟨?_, ?_⟩
    · intro a0 a1 r h
      rw [l_heldTermS] at h
      refine ac_fn mixed Try.func243 rfl rfl rfl (by kernel_rfl) (by kernel_rfl) ?_
      try simp only [go_sem, Nat.reduceEqDiff, reduceIte, Nat.reduceAdd, Nat.reduceMul, Nat.reduceLeDiff, Nat.reduceLT]
      have hj := posF_to rfl rfl (ih1 a0 a1 0 _ h)
      refine loop_to hj (.one ⟨_, .done _, [], [], ?_⟩)
      clear hj
      try simp only [go_sem, Nat.reduceEqDiff, reduceIte, Nat.reduceAdd, Nat.reduceMul, Nat.reduceLeDiff, Nat.reduceLT]
    · intro a0 p0_0 p0_1 r h
      rw [l_heldTermS_l1] at h
      refine posF_of rfl rfl ?_
      try simp only [go_sem, Nat.reduceEqDiff, reduceIte, Nat.reduceAdd, Nat.reduceMul, Nat.reduceLeDiff, Nat.reduceLT]
      refine loop_i ?_
      try simp only [go_sem, Nat.reduceEqDiff, reduceIte, Nat.reduceAdd, Nat.reduceMul, Nat.reduceLeDiff, Nat.reduceLT]
      refine cond_i (fun hb1 => ?_) (fun hb1 => ?_)
      · replace h := ifT (c := (decide (p0_1 < ((List.length a0 : Nat) : Int)))) hb1 h
        try simp only [go_sem, Nat.reduceEqDiff, reduceIte, Nat.reduceAdd, Nat.reduceMul, Nat.reduceLeDiff, Nat.reduceLT]
        refine seq_go ?_
        try simp only [go_sem, Nat.reduceEqDiff, reduceIte, Nat.reduceAdd, Nat.reduceMul, Nat.reduceLeDiff, Nat.reduceLT]
        obtain ⟨v5002, hv5002, h⟩ := bindE h
        refine idx_m hv5002 (Term.ds_len _) ?_
        try simp only [go_sem, Nat.reduceEqDiff, reduceIte, Nat.reduceAdd, Nat.reduceMul, Nat.reduceLeDiff, Nat.reduceLT]
        refine cond_i (fun hb2 => ?_) (fun hb2 => ?_)
        · replace h := ifT (c := (!decide (v5002.kind = p0_0))) hb2 h
          try simp only [go_sem, Nat.reduceEqDiff, reduceIte, Nat.reduceAdd, Nat.reduceMul, Nat.reduceLeDiff, Nat.reduceLT]
          obtain rfl := Option.some.inj h
          simp only [go_sem, Nat.reduceEqDiff, reduceIte, Nat.reduceAdd, Nat.reduceMul, Nat.reduceLeDiff, Nat.reduceLT]
        · replace h := ifF (c := (!decide (v5002.kind = p0_0))) hb2 h
          try simp only [go_sem, Nat.reduceEqDiff, reduceIte, Nat.reduceAdd, Nat.reduceMul, Nat.reduceLeDiff, Nat.reduceLT]
          refine seq_go ?_
          try simp only [go_sem, Nat.reduceEqDiff, reduceIte, Nat.reduceAdd, Nat.reduceMul, Nat.reduceLeDiff, Nat.reduceLT]
          obtain ⟨v8002, hv8002, h⟩ := bindE h
          refine idx_m hv8002 (Term.ds_len _) ?_
          try simp only [go_sem, Nat.reduceEqDiff, reduceIte, Nat.reduceAdd, Nat.reduceMul, Nat.reduceLeDiff, Nat.reduceLT]
          refine cond_i (fun hb3 => ?_) (fun hb3 => ?_)
          · replace h := ifT (c := (!decide (v8002.num = (IntKind.i64.wrap (p0_0 + 1))))) hb3 h
            try simp only [go_sem, Nat.reduceEqDiff, reduceIte, Nat.reduceAdd, Nat.reduceMul, Nat.reduceLeDiff, Nat.reduceLT]
            obtain rfl := Option.some.inj h
            simp only [go_sem, Nat.reduceEqDiff, reduceIte, Nat.reduceAdd, Nat.reduceMul, Nat.reduceLeDiff, Nat.reduceLT]
          · replace h := ifF (c := (!decide (v8002.num = (IntKind.i64.wrap (p0_0 + 1))))) hb3 h
            try simp only [go_sem, Nat.reduceEqDiff, reduceIte, Nat.reduceAdd, Nat.reduceMul, Nat.reduceLeDiff, Nat.reduceLT]
            refine seq_go ?_
            try simp only [go_sem, Nat.reduceEqDiff, reduceIte, Nat.reduceAdd, Nat.reduceMul, Nat.reduceLeDiff, Nat.reduceLT]
            obtain ⟨v11002, hv11002, h⟩ := bindE h
            refine idx_m hv11002 (Term.ds_len _) ?_
            try simp only [go_sem, Nat.reduceEqDiff, reduceIte, Nat.reduceAdd, Nat.reduceMul, Nat.reduceLeDiff, Nat.reduceLT]
            obtain ⟨v11006, hv11006, h⟩ := bindE h
            refine call_i (l_markText_ok _ _ hv11006) ?_
            try simp only [go_sem, Nat.reduceEqDiff, reduceIte, Nat.reduceAdd, Nat.reduceMul, Nat.reduceLeDiff, Nat.reduceLT]
            refine cond_i (fun hb4 => ?_) (fun hb4 => ?_)
            · replace h := ifT (c := (!sameStr v11002.name v11006)) hb4 h
              try simp only [go_sem, Nat.reduceEqDiff, reduceIte, Nat.reduceAdd, Nat.reduceMul, Nat.reduceLeDiff, Nat.reduceLT]
              obtain rfl := Option.some.inj h
              simp only [go_sem, Nat.reduceEqDiff, reduceIte, Nat.reduceAdd, Nat.reduceMul, Nat.reduceLeDiff, Nat.reduceLT]
            · replace h := ifF (c := (!sameStr v11002.name v11006)) hb4 h
              try simp only [go_sem, Nat.reduceEqDiff, reduceIte, Nat.reduceAdd, Nat.reduceMul, Nat.reduceLeDiff, Nat.reduceLT]
              refine seq_go ?_
              try simp only [go_sem, Nat.reduceEqDiff, reduceIte, Nat.reduceAdd, Nat.reduceMul, Nat.reduceLeDiff, Nat.reduceLT]
              obtain ⟨v14002, hv14002, h⟩ := bindE h
              refine idx_m hv14002 (Term.ds_len _) ?_
              try simp only [go_sem, Nat.reduceEqDiff, reduceIte, Nat.reduceAdd, Nat.reduceMul, Nat.reduceLeDiff, Nat.reduceLT]
              refine cond_i (fun hb5 => ?_) (fun hb5 => ?_)
              · replace h := ifT (c := (!decide (v14002.typ.kind = (IntKind.i64.wrap ((IntKind.i64.wrap ((IntKind.i64.wrap (p0_0 + 1)) + 1)) + 1))))) hb5 h
                try simp only [go_sem, Nat.reduceEqDiff, reduceIte, Nat.reduceAdd, Nat.reduceMul, Nat.reduceLeDiff, Nat.reduceLT]
                obtain rfl := Option.some.inj h
                simp only [go_sem, Nat.reduceEqDiff, reduceIte, Nat.reduceAdd, Nat.reduceMul, Nat.reduceLeDiff, Nat.reduceLT]
              · replace h := ifF (c := (!decide (v14002.typ.kind = (IntKind.i64.wrap ((IntKind.i64.wrap ((IntKind.i64.wrap (p0_0 + 1)) + 1)) + 1))))) hb5 h
                try simp only [go_sem, Nat.reduceEqDiff, reduceIte, Nat.reduceAdd, Nat.reduceMul, Nat.reduceLeDiff, Nat.reduceLT]
                refine seq_go ?_
                try simp only [go_sem, Nat.reduceEqDiff, reduceIte, Nat.reduceAdd, Nat.reduceMul, Nat.reduceLeDiff, Nat.reduceLT]
                obtain ⟨v17002, hv17002, h⟩ := bindE h
                refine idx_m hv17002 (Term.ds_len _) ?_
                try simp only [go_sem, Nat.reduceEqDiff, reduceIte, Nat.reduceAdd, Nat.reduceMul, Nat.reduceLeDiff, Nat.reduceLT]
                obtain ⟨v17007, hv17007, h⟩ := bindE h
                refine call_i (l_markText_ok _ _ hv17007) ?_
                try simp only [go_sem, Nat.reduceEqDiff, reduceIte, Nat.reduceAdd, Nat.reduceMul, Nat.reduceLeDiff, Nat.reduceLT]
                refine cond_i (fun hb6 => ?_) (fun hb6 => ?_)
                · replace h := ifT (c := (!sameStr v17002.typ.name v17007)) hb6 h
                  try simp only [go_sem, Nat.reduceEqDiff, reduceIte, Nat.reduceAdd, Nat.reduceMul, Nat.reduceLeDiff, Nat.reduceLT]
                  obtain rfl := Option.some.inj h
                  simp only [go_sem, Nat.reduceEqDiff, reduceIte, Nat.reduceAdd, Nat.reduceMul, Nat.reduceLeDiff, Nat.reduceLT]
                · replace h := ifF (c := (!sameStr v17002.typ.name v17007)) hb6 h
                  try simp only [go_sem, Nat.reduceEqDiff, reduceIte, Nat.reduceAdd, Nat.reduceMul, Nat.reduceLeDiff, Nat.reduceLT]
                  refine seq_go ?_
                  try simp only [go_sem, Nat.reduceEqDiff, reduceIte, Nat.reduceAdd, Nat.reduceMul, Nat.reduceLeDiff, Nat.reduceLT]
                  obtain ⟨v20002, hv20002, h⟩ := bindE h
                  refine idx_m hv20002 (Term.ds_len _) ?_
                  try simp only [go_sem, Nat.reduceEqDiff, reduceIte, Nat.reduceAdd, Nat.reduceMul, Nat.reduceLeDiff, Nat.reduceLT]
                  obtain ⟨v20007, hv20007, h⟩ := bindE h
                  refine call_i (l_heldTypeS_ok fuel _ _ _ hv20007) ?_
                  try simp only [go_sem, Nat.reduceEqDiff, reduceIte, Nat.reduceAdd, Nat.reduceMul, Nat.reduceLeDiff, Nat.reduceLT]
                  refine cond_i (fun hb7 => ?_) (fun hb7 => ?_)
                  · replace h := ifT (c := (decide (v20007 < 0))) hb7 h
                    try simp only [go_sem, Nat.reduceEqDiff, reduceIte, Nat.reduceAdd, Nat.reduceMul, Nat.reduceLeDiff, Nat.reduceLT]
                    obtain rfl := Option.some.inj h
                    simp only [go_sem, Nat.reduceEqDiff, reduceIte, Nat.reduceAdd, Nat.reduceMul, Nat.reduceLeDiff, Nat.reduceLT]
                  · replace h := ifF (c := (decide (v20007 < 0))) hb7 h
                    try simp only [go_sem, Nat.reduceEqDiff, reduceIte, Nat.reduceAdd, Nat.reduceMul, Nat.reduceLeDiff, Nat.reduceLT]
                    refine seq_go ?_
                    try simp only [go_sem, Nat.reduceEqDiff, reduceIte, Nat.reduceAdd, Nat.reduceMul, Nat.reduceLeDiff, Nat.reduceLT]
                    obtain ⟨v23002, hv23002, h⟩ := bindE h
                    refine idx_m hv23002 (Term.ds_len _) ?_
                    try simp only [go_sem, Nat.reduceEqDiff, reduceIte, Nat.reduceAdd, Nat.reduceMul, Nat.reduceLeDiff, Nat.reduceLT]
                    obtain ⟨v23006, hv23006, h⟩ := bindE h
                    refine call_i (l_heldStringS_ok _ _ _ hv23006) ?_
                    try simp only [go_sem, Nat.reduceEqDiff, reduceIte, Nat.reduceAdd, Nat.reduceMul, Nat.reduceLeDiff, Nat.reduceLT]
                    refine cond_i (fun hb8 => ?_) (fun hb8 => ?_)
                    · replace h := ifT (c := (decide (v23006 < 0))) hb8 h
                      try simp only [go_sem, Nat.reduceEqDiff, reduceIte, Nat.reduceAdd, Nat.reduceMul, Nat.reduceLeDiff, Nat.reduceLT]
                      obtain rfl := Option.some.inj h
                      simp only [go_sem, Nat.reduceEqDiff, reduceIte, Nat.reduceAdd, Nat.reduceMul, Nat.reduceLeDiff, Nat.reduceLT]
                    · replace h := ifF (c := (decide (v23006 < 0))) hb8 h
                      try simp only [go_sem, Nat.reduceEqDiff, reduceIte, Nat.reduceAdd, Nat.reduceMul, Nat.reduceLeDiff, Nat.reduceLT]
                      refine seq_go ?_
                      try simp only [go_sem, Nat.reduceEqDiff, reduceIte, Nat.reduceAdd, Nat.reduceMul, Nat.reduceLeDiff, Nat.reduceLT]
                      obtain ⟨v26002, hv26002, h⟩ := bindE h
                      refine idx_m hv26002 (Term.ds_len _) ?_
                      try simp only [go_sem, Nat.reduceEqDiff, reduceIte, Nat.reduceAdd, Nat.reduceMul, Nat.reduceLeDiff, Nat.reduceLT]
                      obtain ⟨v26006, hv26006, h⟩ := bindE h
                      refine call_i (ih0 _ _ _ hv26006) ?_
                      try simp only [go_sem, Nat.reduceEqDiff, reduceIte, Nat.reduceAdd, Nat.reduceMul, Nat.reduceLeDiff, Nat.reduceLT]
                      refine cond_i (fun hb9 => ?_) (fun hb9 => ?_)
                      · replace h := ifT (c := (decide (v26006 < 0))) hb9 h
                        try simp only [go_sem, Nat.reduceEqDiff, reduceIte, Nat.reduceAdd, Nat.reduceMul, Nat.reduceLeDiff, Nat.reduceLT]
                        obtain rfl := Option.some.inj h
                        simp only [go_sem, Nat.reduceEqDiff, reduceIte, Nat.reduceAdd, Nat.reduceMul, Nat.reduceLeDiff, Nat.reduceLT]
                      · replace h := ifF (c := (decide (v26006 < 0))) hb9 h
                        try simp only [go_sem, Nat.reduceEqDiff, reduceIte, Nat.reduceAdd, Nat.reduceMul, Nat.reduceLeDiff, Nat.reduceLT]
                        refine seq_go ?_
                        try simp only [go_sem, Nat.reduceEqDiff, reduceIte, Nat.reduceAdd, Nat.reduceMul, Nat.reduceLeDiff, Nat.reduceLT]
                        have hj := posF_to rfl rfl (ih1 a0 v26006 (IntKind.i64.wrap (p0_1 + 1)) _ h)
                        refine lp_to hj (.one ⟨_, .done _, [], [], ?_⟩)
                        clear hj
                        try simp only [go_sem, Nat.reduceEqDiff, reduceIte, Nat.reduceAdd, Nat.reduceMul, Nat.reduceLeDiff, Nat.reduceLT]
      · replace h := ifF (c := (decide (p0_1 < ((List.length a0 : Nat) : Int)))) hb1 h
        try simp only [go_sem, Nat.reduceEqDiff, reduceIte, Nat.reduceAdd, Nat.reduceMul, Nat.reduceLeDiff, Nat.reduceLT]
        refine seq_go ?_
        try simp only [go_sem, Nat.reduceEqDiff, reduceIte, Nat.reduceAdd, Nat.reduceMul, Nat.reduceLeDiff, Nat.reduceLT]
        obtain rfl := Option.some.inj h
        simp only [go_sem, Nat.reduceEqDiff, reduceIte, Nat.reduceAdd, Nat.reduceMul, Nat.reduceLeDiff, Nat.reduceLT]
theorem l_heldTermS_ok (n : Nat) : (∀ (a0 : List Term) (a1 : Int) (r : Int), l_heldTermS n a0 a1 = some r → AC Try.prog 243 [.ro (List.map Term.ds a0), .int .i64 a1] (.int .i64 r)) := (l_heldTermS_all n).1
theorem l_heldTermS_l1_ok (n : Nat) : (∀ (a0 : List Term) (p0_0 : Int) (p0_1 : Int) (r : Int), l_heldTermS_l1 n a0 p0_0 p0_1 = some r → posF Try.prog Try.f243 [1, 0, 1, 0] (.int .i64 r) ⟨[(0, .ro (List.map Term.ds a0)), (1, .int .i64 p0_0), (5, .int .i64 p0_1)], [], []⟩) := (l_heldTermS_all n).2

theorem l_heldDefS_l1_all (n : Nat) : (∀ (a0 : List Def) (p0_0 : Int) (p0_1 : Int) (r : Int), l_heldDefS_l1 n a0 p0_0 p0_1 = some r → posF Try.prog Try.f196 [1, 0, 1, 0] (.int .i64 r) ⟨[(0, .ro (List.map Def.ds a0)), (1, .int .i64 p0_0), (5, .int .i64 p0_1)], [], []⟩) := by
  induction n with
  | zero => exact ((fun _ _ _ _ h => by rw [l_heldDefS_l1] at h; cases h))
  | succ n ih =>
    have ih0 := ih
    · intro a0 p0_0 p0_1 r h
      rw [l_heldDefS_l1] at h
      refine posF_of rfl rfl ?_
      try simp only [go_sem, Nat.reduceEqDiff, reduceIte, Nat.reduceAdd, Nat.reduceMul, Nat.reduceLeDiff, Nat.reduceLT]
      refine loop_i ?_
      try simp only [go_sem, Nat.reduceEqDiff, reduceIte, Nat.reduceAdd, Nat.reduceMul, Nat.reduceLeDiff, Nat.reduceLT]
      refine cond_i (fun hb1 => ?_) (fun hb1 => ?_)
      · replace h := ifT (c := (decide (p0_1 < ((List.length a0 : Nat) : Int)))) hb1 h
        try simp only [go_sem, Nat.reduceEqDiff, reduceIte, Nat.reduceAdd, Nat.reduceMul, Nat.reduceLeDiff, Nat.reduceLT]
        refine seq_go ?_
        try simp only [go_sem, Nat.reduceEqDiff, reduceIte, Nat.reduceAdd, Nat.reduceMul, Nat.reduceLeDiff, Nat.reduceLT]
        obtain ⟨v5002, hv5002, h⟩ := bindE h
        refine idx_m hv5002 (Def.ds_len _) ?_
        try simp only [go_sem, Nat.reduceEqDiff, reduceIte, Nat.reduceAdd, Nat.reduceMul, Nat.reduceLeDiff, Nat.reduceLT]
        obtain ⟨v5006, hv5006, h⟩ := bindE h
        refine call_i (l_markText_ok _ _ hv5006) ?_
        try simp only [go_sem, Nat.reduceEqDiff, reduceIte, Nat.reduceAdd, Nat.reduceMul, Nat.reduceLeDiff, Nat.reduceLT]
        refine cond_i (fun hb2 => ?_) (fun hb2 => ?_)
        · replace h := ifT (c := (!sameStr v5002.name v5006)) hb2 h
          try simp only [go_sem, Nat.reduceEqDiff, reduceIte, Nat.reduceAdd, Nat.reduceMul, Nat.reduceLeDiff, Nat.reduceLT]
          obtain rfl := Option.some.inj h
          simp only [go_sem, Nat.reduceEqDiff, reduceIte, Nat.reduceAdd, Nat.reduceMul, Nat.reduceLeDiff, Nat.reduceLT]
        · replace h := ifF (c := (!sameStr v5002.name v5006)) hb2 h
          try simp only [go_sem, Nat.reduceEqDiff, reduceIte, Nat.reduceAdd, Nat.reduceMul, Nat.reduceLeDiff, Nat.reduceLT]
          refine seq_go ?_
          try simp only [go_sem, Nat.reduceEqDiff, reduceIte, Nat.reduceAdd, Nat.reduceMul, Nat.reduceLeDiff, Nat.reduceLT]
          obtain ⟨v8002, hv8002, h⟩ := bindE h
          refine idx_m hv8002 (Def.ds_len _) ?_
          try simp only [go_sem, Nat.reduceEqDiff, reduceIte, Nat.reduceAdd, Nat.reduceMul, Nat.reduceLeDiff, Nat.reduceLT]
          refine cond_i (fun hb3 => ?_) (fun hb3 => ?_)
          · replace h := ifT (c := (!decide (v8002.typ.kind = (IntKind.i64.wrap (p0_0 + 1))))) hb3 h
            try simp only [go_sem, Nat.reduceEqDiff, reduceIte, Nat.reduceAdd, Nat.reduceMul, Nat.reduceLeDiff, Nat.reduceLT]
            obtain rfl := Option.some.inj h
            simp only [go_sem, Nat.reduceEqDiff, reduceIte, Nat.reduceAdd, Nat.reduceMul, Nat.reduceLeDiff, Nat.reduceLT]
          · replace h := ifF (c := (!decide (v8002.typ.kind = (IntKind.i64.wrap (p0_0 + 1))))) hb3 h
            try simp only [go_sem, Nat.reduceEqDiff, reduceIte, Nat.reduceAdd, Nat.reduceMul, Nat.reduceLeDiff, Nat.reduceLT]
            refine seq_go ?_
            try simp only [go_sem, Nat.reduceEqDiff, reduceIte, Nat.reduceAdd, Nat.reduceMul, Nat.reduceLeDiff, Nat.reduceLT]
            obtain ⟨v11002, hv11002, h⟩ := bindE h
            refine idx_m hv11002 (Def.ds_len _) ?_
            try simp only [go_sem, Nat.reduceEqDiff, reduceIte, Nat.reduceAdd, Nat.reduceMul, Nat.reduceLeDiff, Nat.reduceLT]
            obtain ⟨v11007, hv11007, h⟩ := bindE h
            refine call_i (l_markText_ok _ _ hv11007) ?_
            try simp only [go_sem, Nat.reduceEqDiff, reduceIte, Nat.reduceAdd, Nat.reduceMul, Nat.reduceLeDiff, Nat.reduceLT]
            refine cond_i (fun hb4 => ?_) (fun hb4 => ?_)
            · replace h := ifT (c := (!sameStr v11002.typ.name v11007)) hb4 h
              try simp only [go_sem, Nat.reduceEqDiff, reduceIte, Nat.reduceAdd, Nat.reduceMul, Nat.reduceLeDiff, Nat.reduceLT]
              obtain rfl := Option.some.inj h
              simp only [go_sem, Nat.reduceEqDiff, reduceIte, Nat.reduceAdd, Nat.reduceMul, Nat.reduceLeDiff, Nat.reduceLT]
            · replace h := ifF (c := (!sameStr v11002.typ.name v11007)) hb4 h
              try simp only [go_sem, Nat.reduceEqDiff, reduceIte, Nat.reduceAdd, Nat.reduceMul, Nat.reduceLeDiff, Nat.reduceLT]
              refine seq_go ?_
              try simp only [go_sem, Nat.reduceEqDiff, reduceIte, Nat.reduceAdd, Nat.reduceMul, Nat.reduceLeDiff, Nat.reduceLT]
              obtain ⟨v14002, hv14002, h⟩ := bindE h
              refine idx_m hv14002 (Def.ds_len _) ?_
              try simp only [go_sem, Nat.reduceEqDiff, reduceIte, Nat.reduceAdd, Nat.reduceMul, Nat.reduceLeDiff, Nat.reduceLT]
              obtain ⟨v14007, hv14007, h⟩ := bindE h
              refine call_i (l_heldTypeS_ok fuel _ _ _ hv14007) ?_
              try simp only [go_sem, Nat.reduceEqDiff, reduceIte, Nat.reduceAdd, Nat.reduceMul, Nat.reduceLeDiff, Nat.reduceLT]
              refine cond_i (fun hb5 => ?_) (fun hb5 => ?_)
              · replace h := ifT (c := (decide (v14007 < 0))) hb5 h
                try simp only [go_sem, Nat.reduceEqDiff, reduceIte, Nat.reduceAdd, Nat.reduceMul, Nat.reduceLeDiff, Nat.reduceLT]
                obtain rfl := Option.some.inj h
                simp only [go_sem, Nat.reduceEqDiff, reduceIte, Nat.reduceAdd, Nat.reduceMul, Nat.reduceLeDiff, Nat.reduceLT]
              · replace h := ifF (c := (decide (v14007 < 0))) hb5 h
                try simp only [go_sem, Nat.reduceEqDiff, reduceIte, Nat.reduceAdd, Nat.reduceMul, Nat.reduceLeDiff, Nat.reduceLT]
                refine seq_go ?_
                try simp only [go_sem, Nat.reduceEqDiff, reduceIte, Nat.reduceAdd, Nat.reduceMul, Nat.reduceLeDiff, Nat.reduceLT]
                obtain ⟨v17002, hv17002, h⟩ := bindE h
                refine idx_m hv17002 (Def.ds_len _) ?_
                try simp only [go_sem, Nat.reduceEqDiff, reduceIte, Nat.reduceAdd, Nat.reduceMul, Nat.reduceLeDiff, Nat.reduceLT]
                refine cond_i (fun hb6 => ?_) (fun hb6 => ?_)
                · replace h := ifT (c := (!decide (v17002.body.kind = v14007))) hb6 h
                  try simp only [go_sem, Nat.reduceEqDiff, reduceIte, Nat.reduceAdd, Nat.reduceMul, Nat.reduceLeDiff, Nat.reduceLT]
                  obtain rfl := Option.some.inj h
                  simp only [go_sem, Nat.reduceEqDiff, reduceIte, Nat.reduceAdd, Nat.reduceMul, Nat.reduceLeDiff, Nat.reduceLT]
                · replace h := ifF (c := (!decide (v17002.body.kind = v14007))) hb6 h
                  try simp only [go_sem, Nat.reduceEqDiff, reduceIte, Nat.reduceAdd, Nat.reduceMul, Nat.reduceLeDiff, Nat.reduceLT]
                  refine seq_go ?_
                  try simp only [go_sem, Nat.reduceEqDiff, reduceIte, Nat.reduceAdd, Nat.reduceMul, Nat.reduceLeDiff, Nat.reduceLT]
                  obtain ⟨v20002, hv20002, h⟩ := bindE h
                  refine idx_m hv20002 (Def.ds_len _) ?_
                  try simp only [go_sem, Nat.reduceEqDiff, reduceIte, Nat.reduceAdd, Nat.reduceMul, Nat.reduceLeDiff, Nat.reduceLT]
                  refine cond_i (fun hb7 => ?_) (fun hb7 => ?_)
                  · replace h := ifT (c := (!decide (v20002.body.num = (IntKind.i64.wrap (v14007 + 1))))) hb7 h
                    try simp only [go_sem, Nat.reduceEqDiff, reduceIte, Nat.reduceAdd, Nat.reduceMul, Nat.reduceLeDiff, Nat.reduceLT]
                    obtain rfl := Option.some.inj h
                    simp only [go_sem, Nat.reduceEqDiff, reduceIte, Nat.reduceAdd, Nat.reduceMul, Nat.reduceLeDiff, Nat.reduceLT]
                  · replace h := ifF (c := (!decide (v20002.body.num = (IntKind.i64.wrap (v14007 + 1))))) hb7 h
                    try simp only [go_sem, Nat.reduceEqDiff, reduceIte, Nat.reduceAdd, Nat.reduceMul, Nat.reduceLeDiff, Nat.reduceLT]
                    refine seq_go ?_
                    try simp only [go_sem, Nat.reduceEqDiff, reduceIte, Nat.reduceAdd, Nat.reduceMul, Nat.reduceLeDiff, Nat.reduceLT]
                    obtain ⟨v23002, hv23002, h⟩ := bindE h
                    refine idx_m hv23002 (Def.ds_len _) ?_
                    try simp only [go_sem, Nat.reduceEqDiff, reduceIte, Nat.reduceAdd, Nat.reduceMul, Nat.reduceLeDiff, Nat.reduceLT]
                    obtain ⟨v23007, hv23007, h⟩ := bindE h
                    refine call_i (l_markText_ok _ _ hv23007) ?_
                    try simp only [go_sem, Nat.reduceEqDiff, reduceIte, Nat.reduceAdd, Nat.reduceMul, Nat.reduceLeDiff, Nat.reduceLT]
                    refine cond_i (fun hb8 => ?_) (fun hb8 => ?_)
                    · replace h := ifT (c := (!sameStr v23002.body.name v23007)) hb8 h
                      try simp only [go_sem, Nat.reduceEqDiff, reduceIte, Nat.reduceAdd, Nat.reduceMul, Nat.reduceLeDiff, Nat.reduceLT]
                      obtain rfl := Option.some.inj h
                      simp only [go_sem, Nat.reduceEqDiff, reduceIte, Nat.reduceAdd, Nat.reduceMul, Nat.reduceLeDiff, Nat.reduceLT]
                    · replace h := ifF (c := (!sameStr v23002.body.name v23007)) hb8 h
                      try simp only [go_sem, Nat.reduceEqDiff, reduceIte, Nat.reduceAdd, Nat.reduceMul, Nat.reduceLeDiff, Nat.reduceLT]
                      refine seq_go ?_
                      try simp only [go_sem, Nat.reduceEqDiff, reduceIte, Nat.reduceAdd, Nat.reduceMul, Nat.reduceLeDiff, Nat.reduceLT]
                      obtain ⟨v26002, hv26002, h⟩ := bindE h
                      refine idx_m hv26002 (Def.ds_len _) ?_
                      try simp only [go_sem, Nat.reduceEqDiff, reduceIte, Nat.reduceAdd, Nat.reduceMul, Nat.reduceLeDiff, Nat.reduceLT]
                      refine cond_i (fun hb9 => ?_) (fun hb9 => ?_)
                      · replace h := ifT (c := (!decide (v26002.body.typ.kind = (IntKind.i64.wrap ((IntKind.i64.wrap ((IntKind.i64.wrap (v14007 + 1)) + 1)) + 1))))) hb9 h
                        try simp only [go_sem, Nat.reduceEqDiff, reduceIte, Nat.reduceAdd, Nat.reduceMul, Nat.reduceLeDiff, Nat.reduceLT]
                        obtain rfl := Option.some.inj h
                        simp only [go_sem, Nat.reduceEqDiff, reduceIte, Nat.reduceAdd, Nat.reduceMul, Nat.reduceLeDiff, Nat.reduceLT]
                      · replace h := ifF (c := (!decide (v26002.body.typ.kind = (IntKind.i64.wrap ((IntKind.i64.wrap ((IntKind.i64.wrap (v14007 + 1)) + 1)) + 1))))) hb9 h
                        try simp only [go_sem, Nat.reduceEqDiff, reduceIte, Nat.reduceAdd, Nat.reduceMul, Nat.reduceLeDiff, Nat.reduceLT]
                        refine seq_go ?_
                        try simp only [go_sem, Nat.reduceEqDiff, reduceIte, Nat.reduceAdd, Nat.reduceMul, Nat.reduceLeDiff, Nat.reduceLT]
                        obtain ⟨v29002, hv29002, h⟩ := bindE h
                        refine idx_m hv29002 (Def.ds_len _) ?_
                        try simp only [go_sem, Nat.reduceEqDiff, reduceIte, Nat.reduceAdd, Nat.reduceMul, Nat.reduceLeDiff, Nat.reduceLT]
                        obtain ⟨v29008, hv29008, h⟩ := bindE h
                        refine call_i (l_markText_ok _ _ hv29008) ?_
                        try simp only [go_sem, Nat.reduceEqDiff, reduceIte, Nat.reduceAdd, Nat.reduceMul, Nat.reduceLeDiff, Nat.reduceLT]
                        refine cond_i (fun hb10 => ?_) (fun hb10 => ?_)
                        · replace h := ifT (c := (!sameStr v29002.body.typ.name v29008)) hb10 h
                          try simp only [go_sem, Nat.reduceEqDiff, reduceIte, Nat.reduceAdd, Nat.reduceMul, Nat.reduceLeDiff, Nat.reduceLT]
                          obtain rfl := Option.some.inj h
                          simp only [go_sem, Nat.reduceEqDiff, reduceIte, Nat.reduceAdd, Nat.reduceMul, Nat.reduceLeDiff, Nat.reduceLT]
                        · replace h := ifF (c := (!sameStr v29002.body.typ.name v29008)) hb10 h
                          try simp only [go_sem, Nat.reduceEqDiff, reduceIte, Nat.reduceAdd, Nat.reduceMul, Nat.reduceLeDiff, Nat.reduceLT]
                          refine seq_go ?_
                          try simp only [go_sem, Nat.reduceEqDiff, reduceIte, Nat.reduceAdd, Nat.reduceMul, Nat.reduceLeDiff, Nat.reduceLT]
                          obtain ⟨v32002, hv32002, h⟩ := bindE h
                          refine idx_m hv32002 (Def.ds_len _) ?_
                          try simp only [go_sem, Nat.reduceEqDiff, reduceIte, Nat.reduceAdd, Nat.reduceMul, Nat.reduceLeDiff, Nat.reduceLT]
                          obtain ⟨v32008, hv32008, h⟩ := bindE h
                          refine call_i (l_heldTypeS_ok fuel _ _ _ hv32008) ?_
                          try simp only [go_sem, Nat.reduceEqDiff, reduceIte, Nat.reduceAdd, Nat.reduceMul, Nat.reduceLeDiff, Nat.reduceLT]
                          refine cond_i (fun hb11 => ?_) (fun hb11 => ?_)
                          · replace h := ifT (c := (decide (v32008 < 0))) hb11 h
                            try simp only [go_sem, Nat.reduceEqDiff, reduceIte, Nat.reduceAdd, Nat.reduceMul, Nat.reduceLeDiff, Nat.reduceLT]
                            obtain rfl := Option.some.inj h
                            simp only [go_sem, Nat.reduceEqDiff, reduceIte, Nat.reduceAdd, Nat.reduceMul, Nat.reduceLeDiff, Nat.reduceLT]
                          · replace h := ifF (c := (decide (v32008 < 0))) hb11 h
                            try simp only [go_sem, Nat.reduceEqDiff, reduceIte, Nat.reduceAdd, Nat.reduceMul, Nat.reduceLeDiff, Nat.reduceLT]
                            refine seq_go ?_
                            try simp only [go_sem, Nat.reduceEqDiff, reduceIte, Nat.reduceAdd, Nat.reduceMul, Nat.reduceLeDiff, Nat.reduceLT]
                            obtain ⟨v35002, hv35002, h⟩ := bindE h
                            refine idx_m hv35002 (Def.ds_len _) ?_
                            try simp only [go_sem, Nat.reduceEqDiff, reduceIte, Nat.reduceAdd, Nat.reduceMul, Nat.reduceLeDiff, Nat.reduceLT]
                            obtain ⟨v35007, hv35007, h⟩ := bindE h
                            refine call_i (l_heldStringS_ok _ _ _ hv35007) ?_
                            try simp only [go_sem, Nat.reduceEqDiff, reduceIte, Nat.reduceAdd, Nat.reduceMul, Nat.reduceLeDiff, Nat.reduceLT]
                            refine cond_i (fun hb12 => ?_) (fun hb12 => ?_)
                            · replace h := ifT (c := (decide (v35007 < 0))) hb12 h
                              try simp only [go_sem, Nat.reduceEqDiff, reduceIte, Nat.reduceAdd, Nat.reduceMul, Nat.reduceLeDiff, Nat.reduceLT]
                              obtain rfl := Option.some.inj h
                              simp only [go_sem, Nat.reduceEqDiff, reduceIte, Nat.reduceAdd, Nat.reduceMul, Nat.reduceLeDiff, Nat.reduceLT]
                            · replace h := ifF (c := (decide (v35007 < 0))) hb12 h
                              try simp only [go_sem, Nat.reduceEqDiff, reduceIte, Nat.reduceAdd, Nat.reduceMul, Nat.reduceLeDiff, Nat.reduceLT]
                              refine seq_go ?_
                              try simp only [go_sem, Nat.reduceEqDiff, reduceIte, Nat.reduceAdd, Nat.reduceMul, Nat.reduceLeDiff, Nat.reduceLT]
                              obtain ⟨v38002, hv38002, h⟩ := bindE h
                              refine idx_m hv38002 (Def.ds_len _) ?_
                              try simp only [go_sem, Nat.reduceEqDiff, reduceIte, Nat.reduceAdd, Nat.reduceMul, Nat.reduceLeDiff, Nat.reduceLT]
                              obtain ⟨v38007, hv38007, h⟩ := bindE h
                              refine call_i (l_heldTermS_ok fuel _ _ _ hv38007) ?_
                              try simp only [go_sem, Nat.reduceEqDiff, reduceIte, Nat.reduceAdd, Nat.reduceMul, Nat.reduceLeDiff, Nat.reduceLT]
                              refine cond_i (fun hb13 => ?_) (fun hb13 => ?_)
                              · replace h := ifT (c := (decide (v38007 < 0))) hb13 h
                                try simp only [go_sem, Nat.reduceEqDiff, reduceIte, Nat.reduceAdd, Nat.reduceMul, Nat.reduceLeDiff, Nat.reduceLT]
                                obtain rfl := Option.some.inj h
                                simp only [go_sem, Nat.reduceEqDiff, reduceIte, Nat.reduceAdd, Nat.reduceMul, Nat.reduceLeDiff, Nat.reduceLT]
                              · replace h := ifF (c := (decide (v38007 < 0))) hb13 h
                                try simp only [go_sem, Nat.reduceEqDiff, reduceIte, Nat.reduceAdd, Nat.reduceMul, Nat.reduceLeDiff, Nat.reduceLT]
                                refine seq_go ?_
                                try simp only [go_sem, Nat.reduceEqDiff, reduceIte, Nat.reduceAdd, Nat.reduceMul, Nat.reduceLeDiff, Nat.reduceLT]
                                have hj := posF_to rfl rfl (ih0 a0 v38007 (IntKind.i64.wrap (p0_1 + 1)) _ h)
                                refine lp_to hj (.one ⟨_, .done _, [], [], ?_⟩)
                                clear hj
                                try simp only [go_sem, Nat.reduceEqDiff, reduceIte, Nat.reduceAdd, Nat.reduceMul, Nat.reduceLeDiff, Nat.reduceLT]
      · replace h := ifF (c := (decide (p0_1 < ((List.length a0 : Nat) : Int)))) hb1 h
        try simp only [go_sem, Nat.reduceEqDiff, reduceIte, Nat.reduceAdd, Nat.reduceMul, Nat.reduceLeDiff, Nat.reduceLT]
        refine seq_go ?_
        try simp only [go_sem, Nat.reduceEqDiff, reduceIte, Nat.reduceAdd, Nat.reduceMul, Nat.reduceLeDiff, Nat.reduceLT]
        obtain rfl := Option.some.inj h
        simp only [go_sem, Nat.reduceEqDiff, reduceIte, Nat.reduceAdd, Nat.reduceMul, Nat.reduceLeDiff, Nat.reduceLT]
theorem l_heldDefS_l1_ok (n : Nat) : (∀ (a0 : List Def) (p0_0 : Int) (p0_1 : Int) (r : Int), l_heldDefS_l1 n a0 p0_0 p0_1 = some r → posF Try.prog Try.f196 [1, 0, 1, 0] (.int .i64 r) ⟨[(0, .ro (List.map Def.ds a0)), (1, .int .i64 p0_0), (5, .int .i64 p0_1)], [], []⟩) := (l_heldDefS_l1_all n)

theorem l_heldDefS_ok (a0 : List Def) (a1 : Int) (r : Int) (h : l_heldDefS a0 a1 = some r) : AC Try.prog 196 [.ro (List.map Def.ds a0), .int .i64 a1] (.int .i64 r) := by
  unfold l_heldDefS at h
  refine ac_fn mixed Try.func196 rfl rfl rfl (by kernel_rfl) (by kernel_rfl) ?_
  try simp only [go_sem, Nat.reduceEqDiff, reduceIte, Nat.reduceAdd, Nat.reduceMul, Nat.reduceLeDiff, Nat.reduceLT]
  have hj := posF_to rfl rfl (l_heldDefS_l1_ok fuel a0 a1 0 _ h)
  refine loop_to hj (.one ⟨_, .done _, [], [], ?_⟩)
  clear hj
  try simp only [go_sem, Nat.reduceEqDiff, reduceIte, Nat.reduceAdd, Nat.reduceMul, Nat.reduceLeDiff, Nat.reduceLT]
theorem l_heldProgram_ok (a0 : TProgram) (a1 : Int) (r : Int) (h : l_heldProgram a0 a1 = some r) : AC Try.prog 116 [.agg (TProgram.avs a0), .int .i64 a1] (.int .i64 r) := by
  unfold l_heldProgram at h
  refine ac_fn mixed Try.func116 rfl rfl rfl (by kernel_rfl) (by kernel_rfl) ?_
  try simp only [go_sem, Nat.reduceEqDiff, reduceIte, Nat.reduceAdd, Nat.reduceMul, Nat.reduceLeDiff, Nat.reduceLT]
  obtain ⟨v2003, hv2003, h⟩ := bindE h
  refine call_i (l_heldDataS_ok _ _ _ hv2003) ?_
  try simp only [go_sem, Nat.reduceEqDiff, reduceIte, Nat.reduceAdd, Nat.reduceMul, Nat.reduceLeDiff, Nat.reduceLT]
  refine cond_i (fun hb1 => ?_) (fun hb1 => ?_)
  · replace h := ifT (c := (decide (v2003 < 0))) hb1 h
    try simp only [go_sem, Nat.reduceEqDiff, reduceIte, Nat.reduceAdd, Nat.reduceMul, Nat.reduceLeDiff, Nat.reduceLT]
    obtain rfl := Option.some.inj h
    simp only [go_sem, Nat.reduceEqDiff, reduceIte, Nat.reduceAdd, Nat.reduceMul, Nat.reduceLeDiff, Nat.reduceLT]
  · replace h := ifF (c := (decide (v2003 < 0))) hb1 h
    try simp only [go_sem, Nat.reduceEqDiff, reduceIte, Nat.reduceAdd, Nat.reduceMul, Nat.reduceLeDiff, Nat.reduceLT]
    refine seq_go ?_
    try simp only [go_sem, Nat.reduceEqDiff, reduceIte, Nat.reduceAdd, Nat.reduceMul, Nat.reduceLeDiff, Nat.reduceLT]
    obtain ⟨v5003, hv5003, h⟩ := bindE h
    refine call_i (l_heldDefS_ok _ _ _ hv5003) ?_
    try simp only [go_sem, Nat.reduceEqDiff, reduceIte, Nat.reduceAdd, Nat.reduceMul, Nat.reduceLeDiff, Nat.reduceLT]
    refine cond_i (fun hb2 => ?_) (fun hb2 => ?_)
    · replace h := ifT (c := (decide (v5003 < 0))) hb2 h
      try simp only [go_sem, Nat.reduceEqDiff, reduceIte, Nat.reduceAdd, Nat.reduceMul, Nat.reduceLeDiff, Nat.reduceLT]
      obtain rfl := Option.some.inj h
      simp only [go_sem, Nat.reduceEqDiff, reduceIte, Nat.reduceAdd, Nat.reduceMul, Nat.reduceLeDiff, Nat.reduceLT]
    · replace h := ifF (c := (decide (v5003 < 0))) hb2 h
      try simp only [go_sem, Nat.reduceEqDiff, reduceIte, Nat.reduceAdd, Nat.reduceMul, Nat.reduceLeDiff, Nat.reduceLT]
      refine seq_go ?_
      try simp only [go_sem, Nat.reduceEqDiff, reduceIte, Nat.reduceAdd, Nat.reduceMul, Nat.reduceLeDiff, Nat.reduceLT]
      obtain rfl := Option.some.inj h
      simp only [go_sem, Nat.reduceEqDiff, reduceIte, Nat.reduceAdd, Nat.reduceMul, Nat.reduceLeDiff, Nat.reduceLT]
theorem l_heldDesk_ok (a0 : Desk) (a1 : Int) (r : Int) (h : l_heldDesk a0 a1 = some r) : AC Try.prog 55 [.agg (Desk.avs a0), .int .i64 a1] (.int .i64 r) := by
  unfold l_heldDesk at h
  refine ac_fn mixed Try.func55 rfl rfl rfl (by kernel_rfl) (by kernel_rfl) ?_
  try simp only [go_sem, Nat.reduceEqDiff, reduceIte, Nat.reduceAdd, Nat.reduceMul, Nat.reduceLeDiff, Nat.reduceLT]
  obtain ⟨v2003, hv2003, h⟩ := bindE h
  refine call_i (l_heldProgram_ok _ _ _ hv2003) ?_
  try simp only [go_sem, Nat.reduceEqDiff, reduceIte, Nat.reduceAdd, Nat.reduceMul, Nat.reduceLeDiff, Nat.reduceLT]
  refine cond_i (fun hb1 => ?_) (fun hb1 => ?_)
  · replace h := ifT (c := (decide (v2003 < 0))) hb1 h
    try simp only [go_sem, Nat.reduceEqDiff, reduceIte, Nat.reduceAdd, Nat.reduceMul, Nat.reduceLeDiff, Nat.reduceLT]
    obtain rfl := Option.some.inj h
    simp only [go_sem, Nat.reduceEqDiff, reduceIte, Nat.reduceAdd, Nat.reduceMul, Nat.reduceLeDiff, Nat.reduceLT]
  · replace h := ifF (c := (decide (v2003 < 0))) hb1 h
    try simp only [go_sem, Nat.reduceEqDiff, reduceIte, Nat.reduceAdd, Nat.reduceMul, Nat.reduceLeDiff, Nat.reduceLT]
    refine seq_go ?_
    try simp only [go_sem, Nat.reduceEqDiff, reduceIte, Nat.reduceAdd, Nat.reduceMul, Nat.reduceLeDiff, Nat.reduceLT]
    obtain ⟨v5003, hv5003, h⟩ := bindE h
    refine call_i (l_heldInt64S_ok _ _ _ hv5003) ?_
    try simp only [go_sem, Nat.reduceEqDiff, reduceIte, Nat.reduceAdd, Nat.reduceMul, Nat.reduceLeDiff, Nat.reduceLT]
    refine cond_i (fun hb2 => ?_) (fun hb2 => ?_)
    · replace h := ifT (c := (decide (v5003 < 0))) hb2 h
      try simp only [go_sem, Nat.reduceEqDiff, reduceIte, Nat.reduceAdd, Nat.reduceMul, Nat.reduceLeDiff, Nat.reduceLT]
      obtain rfl := Option.some.inj h
      simp only [go_sem, Nat.reduceEqDiff, reduceIte, Nat.reduceAdd, Nat.reduceMul, Nat.reduceLeDiff, Nat.reduceLT]
    · replace h := ifF (c := (decide (v5003 < 0))) hb2 h
      try simp only [go_sem, Nat.reduceEqDiff, reduceIte, Nat.reduceAdd, Nat.reduceMul, Nat.reduceLeDiff, Nat.reduceLT]
      refine seq_go ?_
      try simp only [go_sem, Nat.reduceEqDiff, reduceIte, Nat.reduceAdd, Nat.reduceMul, Nat.reduceLeDiff, Nat.reduceLT]
      obtain rfl := Option.some.inj h
      simp only [go_sem, Nat.reduceEqDiff, reduceIte, Nat.reduceAdd, Nat.reduceMul, Nat.reduceLeDiff, Nat.reduceLT]
theorem l_FnExactNewDesk_ok  (r : Bool) (h : l_FnExactNewDesk  = some r) : AC Try.prog 10 [] (.bool r) := by
  unfold l_FnExactNewDesk at h
  refine ac_fn mixed Try.func10 rfl rfl rfl (by kernel_rfl) (by kernel_rfl) ?_
  try simp only [go_sem, Nat.reduceEqDiff, reduceIte, Nat.reduceAdd, Nat.reduceMul, Nat.reduceLeDiff, Nat.reduceLT]
  obtain ⟨v2000, hv2000, h⟩ := bindE h
  refine call_i (s_NewDesk_ok  _ hv2000) ?_
  try simp only [go_sem, Nat.reduceEqDiff, reduceIte, Nat.reduceAdd, Nat.reduceMul, Nat.reduceLeDiff, Nat.reduceLT]
  obtain ⟨v3000, hv3000, h⟩ := bindE h
  refine call_i (i_NewDesk_ok  _ hv3000) ?_
  try simp only [go_sem, Nat.reduceEqDiff, reduceIte, Nat.reduceAdd, Nat.reduceMul, Nat.reduceLeDiff, Nat.reduceLT]
  obtain ⟨v4002, hv4002, h⟩ := bindE h
  refine call_i (l_eqDesk_ok _ _ _ hv4002) ?_
  try simp only [go_sem, Nat.reduceEqDiff, reduceIte, Nat.reduceAdd, Nat.reduceMul, Nat.reduceLeDiff, Nat.reduceLT]
  refine cond_i (fun hb1 => ?_) (fun hb1 => ?_)
  · replace h := ifT (c := (!v4002)) hb1 h
    try simp only [go_sem, Nat.reduceEqDiff, reduceIte, Nat.reduceAdd, Nat.reduceMul, Nat.reduceLeDiff, Nat.reduceLT]
    obtain rfl := Option.some.inj h
    simp only [go_sem, Nat.reduceEqDiff, reduceIte, Nat.reduceAdd, Nat.reduceMul, Nat.reduceLeDiff, Nat.reduceLT]
  · replace h := ifF (c := (!v4002)) hb1 h
    try simp only [go_sem, Nat.reduceEqDiff, reduceIte, Nat.reduceAdd, Nat.reduceMul, Nat.reduceLeDiff, Nat.reduceLT]
    refine seq_go ?_
    try simp only [go_sem, Nat.reduceEqDiff, reduceIte, Nat.reduceAdd, Nat.reduceMul, Nat.reduceLeDiff, Nat.reduceLT]
    obtain ⟨v7002, hv7002, h⟩ := bindE h
    refine call_g ⟨[], [(1, 48000), (2, 48001), (3, 48002)], [], [], [], true⟩ (by kernel_rfl) (l_markDesk_ok _ _ (some 2) (some 12) (some 1) _ hv7002) (by kernel_rfl) ?_
    try simp only [go_sem, Nat.reduceEqDiff, reduceIte, Nat.reduceAdd, Nat.reduceMul, Nat.reduceLeDiff, Nat.reduceLT]
    obtain ⟨v9002, hv9002, h⟩ := bindE h
    refine call_i (l_heldDesk_ok _ _ _ hv9002) ?_
    try simp only [go_sem, Nat.reduceEqDiff, reduceIte, Nat.reduceAdd, Nat.reduceMul, Nat.reduceLeDiff, Nat.reduceLT]
    refine cond_i (fun hb2 => ?_) (fun hb2 => ?_)
    · replace h := ifT (c := (decide (v9002 < 0))) hb2 h
      try simp only [go_sem, Nat.reduceEqDiff, reduceIte, Nat.reduceAdd, Nat.reduceMul, Nat.reduceLeDiff, Nat.reduceLT]
      obtain rfl := Option.some.inj h
      simp only [go_sem, Nat.reduceEqDiff, reduceIte, Nat.reduceAdd, Nat.reduceMul, Nat.reduceLeDiff, Nat.reduceLT]
    · replace h := ifF (c := (decide (v9002 < 0))) hb2 h
      try simp only [go_sem, Nat.reduceEqDiff, reduceIte, Nat.reduceAdd, Nat.reduceMul, Nat.reduceLeDiff, Nat.reduceLT]
      refine seq_go ?_
      try simp only [go_sem, Nat.reduceEqDiff, reduceIte, Nat.reduceAdd, Nat.reduceMul, Nat.reduceLeDiff, Nat.reduceLT]
      refine cond_i (fun hb3 => ?_) (fun hb3 => ?_)
      · replace h := ifT (c := (!decide (v9002 = v7002.1))) hb3 h
        try simp only [go_sem, Nat.reduceEqDiff, reduceIte, Nat.reduceAdd, Nat.reduceMul, Nat.reduceLeDiff, Nat.reduceLT]
        obtain rfl := Option.some.inj h
        simp only [go_sem, Nat.reduceEqDiff, reduceIte, Nat.reduceAdd, Nat.reduceMul, Nat.reduceLeDiff, Nat.reduceLT]
      · replace h := ifF (c := (!decide (v9002 = v7002.1))) hb3 h
        try simp only [go_sem, Nat.reduceEqDiff, reduceIte, Nat.reduceAdd, Nat.reduceMul, Nat.reduceLeDiff, Nat.reduceLT]
        refine seq_go ?_
        try simp only [go_sem, Nat.reduceEqDiff, reduceIte, Nat.reduceAdd, Nat.reduceMul, Nat.reduceLeDiff, Nat.reduceLT]
        obtain ⟨v14000, hv14000, h⟩ := bindE h
        refine call_i (i_NewDesk_ok  _ hv14000) ?_
        try simp only [go_sem, Nat.reduceEqDiff, reduceIte, Nat.reduceAdd, Nat.reduceMul, Nat.reduceLeDiff, Nat.reduceLT]
        obtain ⟨v15002, hv15002, h⟩ := bindE h
        refine call_i (l_eqDesk_ok _ _ _ hv15002) ?_
        try simp only [go_sem, Nat.reduceEqDiff, reduceIte, Nat.reduceAdd, Nat.reduceMul, Nat.reduceLeDiff, Nat.reduceLT]
        refine cond_i (fun hb4 => ?_) (fun hb4 => ?_)
        · replace h := ifT (c := (!v15002)) hb4 h
          try simp only [go_sem, Nat.reduceEqDiff, reduceIte, Nat.reduceAdd, Nat.reduceMul, Nat.reduceLeDiff, Nat.reduceLT]
          obtain rfl := Option.some.inj h
          simp only [go_sem, Nat.reduceEqDiff, reduceIte, Nat.reduceAdd, Nat.reduceMul, Nat.reduceLeDiff, Nat.reduceLT]
        · replace h := ifF (c := (!v15002)) hb4 h
          try simp only [go_sem, Nat.reduceEqDiff, reduceIte, Nat.reduceAdd, Nat.reduceMul, Nat.reduceLeDiff, Nat.reduceLT]
          refine seq_go ?_
          try simp only [go_sem, Nat.reduceEqDiff, reduceIte, Nat.reduceAdd, Nat.reduceMul, Nat.reduceLeDiff, Nat.reduceLT]
          obtain ⟨v18002, hv18002, h⟩ := bindE h
          refine call_i (l_heldDesk_ok _ _ _ hv18002) ?_
          try simp only [go_sem, Nat.reduceEqDiff, reduceIte, Nat.reduceAdd, Nat.reduceMul, Nat.reduceLeDiff, Nat.reduceLT]
          refine cond_i (fun hb5 => ?_) (fun hb5 => ?_)
          · replace h := ifT (c := (decide (v18002 < 0))) hb5 h
            try simp only [go_sem, Nat.reduceEqDiff, reduceIte, Nat.reduceAdd, Nat.reduceMul, Nat.reduceLeDiff, Nat.reduceLT]
            obtain rfl := Option.some.inj h
            simp only [go_sem, Nat.reduceEqDiff, reduceIte, Nat.reduceAdd, Nat.reduceMul, Nat.reduceLeDiff, Nat.reduceLT]
          · replace h := ifF (c := (decide (v18002 < 0))) hb5 h
            try simp only [go_sem, Nat.reduceEqDiff, reduceIte, Nat.reduceAdd, Nat.reduceMul, Nat.reduceLeDiff, Nat.reduceLT]
            refine seq_go ?_
            try simp only [go_sem, Nat.reduceEqDiff, reduceIte, Nat.reduceAdd, Nat.reduceMul, Nat.reduceLeDiff, Nat.reduceLT]
            refine cond_i (fun hb6 => ?_) (fun hb6 => ?_)
            · replace h := ifT (c := (!decide (v18002 = v7002.1))) hb6 h
              try simp only [go_sem, Nat.reduceEqDiff, reduceIte, Nat.reduceAdd, Nat.reduceMul, Nat.reduceLeDiff, Nat.reduceLT]
              obtain rfl := Option.some.inj h
              simp only [go_sem, Nat.reduceEqDiff, reduceIte, Nat.reduceAdd, Nat.reduceMul, Nat.reduceLeDiff, Nat.reduceLT]
            · replace h := ifF (c := (!decide (v18002 = v7002.1))) hb6 h
              try simp only [go_sem, Nat.reduceEqDiff, reduceIte, Nat.reduceAdd, Nat.reduceMul, Nat.reduceLeDiff, Nat.reduceLT]
              refine seq_go ?_
              try simp only [go_sem, Nat.reduceEqDiff, reduceIte, Nat.reduceAdd, Nat.reduceMul, Nat.reduceLeDiff, Nat.reduceLT]
              obtain rfl := Option.some.inj h
              simp only [go_sem, Nat.reduceEqDiff, reduceIte, Nat.reduceAdd, Nat.reduceMul, Nat.reduceLeDiff, Nat.reduceLT]
end Go.Proofs.Ytfbnlkaggggmiaa.Ab
