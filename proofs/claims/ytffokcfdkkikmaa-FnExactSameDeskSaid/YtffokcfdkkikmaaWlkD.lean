/-
  The functions do what their models say. Printed by wip/ab/gen.py.
-/
import Derived.Test.YtffokcfdkkikmaaModD
import Derived.Test.YtffokcfdkkikmaaTi2
import Derived.Test.YtffokcfdkkikmaaWlkZ
namespace Go.Proofs.Ytffokcfdkkikmaa.Ab
set_option linter.unusedVariables false
set_option linter.unusedSimpArgs false
set_option maxRecDepth 20000
set_option maxHeartbeats 4000000
open Go.RowKit

theorem l_szType_all (n : Nat) : (∀ (a0 : TType) (a1 : Int) (r : Int), l_szType n a0 a1 = some r → AC Try.prog 292 [.agg (TType.avs a0), .int .i64 a1] (.int .i64 r)) ∧
    (∀ (a0 : List TType) (a1 : Int) (r : Int), l_szTypeS n a0 a1 = some r → AC Try.prog 337 [.ro (List.map TType.ds a0), .int .i64 a1] (.int .i64 r)) ∧
    (∀ (a0 : List TType) (p0_0 : Int) (p0_1 : Int) (r : Int), l_szTypeS_l1 n a0 p0_0 p0_1 = some r → posF Try.prog Try.f337 [1, 1, 1, 0, 1, 0] (.int .i64 r) ⟨[(0, .ro (List.map TType.ds a0)), (1, .int .i64 p0_0), (5, .int .i64 p0_1)], [], []⟩) := by
  induction n with
  | zero => exact ⟨(fun _ _ _ h => by rw [l_szType] at h; cases h), (fun _ _ _ h => by rw [l_szTypeS] at h; cases h), (fun _ _ _ _ h => by rw [l_szTypeS_l1] at h; cases h)⟩
  | succ n ih =>
    obtain ⟨ih0, ih1, ih2⟩ := ih
    refine ⟨?_, ?_, ?_⟩
    · intro a0 a1 r h
      rw [l_szType] at h
      refine ac_fn mixed Try.func292 rfl rfl rfl (by kernel_rfl) (by kernel_rfl) ?_
      try simp only [go_sem, Nat.reduceEqDiff, reduceIte, Nat.reduceAdd, Nat.reduceMul, Nat.reduceLeDiff, Nat.reduceLT]
      refine cond_i (fun hb1 => ?_) (fun hb1 => ?_)
      · replace h := ifT (c := (decide ((IntKind.i64.wrap (a1 - ((ByteArray.size a0.name : Nat) : Int))) < 0))) hb1 h
        try simp only [go_sem, Nat.reduceEqDiff, reduceIte, Nat.reduceAdd, Nat.reduceMul, Nat.reduceLeDiff, Nat.reduceLT]
        obtain rfl := Option.some.inj h
        simp only [go_sem, Nat.reduceEqDiff, reduceIte, Nat.reduceAdd, Nat.reduceMul, Nat.reduceLeDiff, Nat.reduceLT]
      · replace h := ifF (c := (decide ((IntKind.i64.wrap (a1 - ((ByteArray.size a0.name : Nat) : Int))) < 0))) hb1 h
        try simp only [go_sem, Nat.reduceEqDiff, reduceIte, Nat.reduceAdd, Nat.reduceMul, Nat.reduceLeDiff, Nat.reduceLT]
        refine seq_go ?_
        try simp only [go_sem, Nat.reduceEqDiff, reduceIte, Nat.reduceAdd, Nat.reduceMul, Nat.reduceLeDiff, Nat.reduceLT]
        obtain ⟨v5003, hv5003, h⟩ := bindE h
        refine call_i (ih1 _ _ _ hv5003) ?_
        try simp only [go_sem, Nat.reduceEqDiff, reduceIte, Nat.reduceAdd, Nat.reduceMul, Nat.reduceLeDiff, Nat.reduceLT]
        refine cond_i (fun hb2 => ?_) (fun hb2 => ?_)
        · replace h := ifT (c := (decide (v5003 < 0))) hb2 h
          try simp only [go_sem, Nat.reduceEqDiff, reduceIte, Nat.reduceAdd, Nat.reduceMul, Nat.reduceLeDiff, Nat.reduceLT]
          obtain rfl := Option.some.inj h
          simp only [go_sem, Nat.reduceEqDiff, reduceIte, Nat.reduceAdd, Nat.reduceMul, Nat.reduceLeDiff, Nat.reduceLT]
        · replace h := ifF (c := (decide (v5003 < 0))) hb2 h
          try simp only [go_sem, Nat.reduceEqDiff, reduceIte, Nat.reduceAdd, Nat.reduceMul, Nat.reduceLeDiff, Nat.reduceLT]
          refine seq_go ?_
          try simp only [go_sem, Nat.reduceEqDiff, reduceIte, Nat.reduceAdd, Nat.reduceMul, Nat.reduceLeDiff, Nat.reduceLT]
          obtain rfl := Option.some.inj h
          simp only [go_sem, Nat.reduceEqDiff, reduceIte, Nat.reduceAdd, Nat.reduceMul, Nat.reduceLeDiff, Nat.reduceLT]
    · intro a0 a1 r h
      rw [l_szTypeS] at h
      refine ac_fn mixed Try.func337 rfl rfl rfl (by kernel_rfl) (by kernel_rfl) ?_
      try simp only [go_sem, Nat.reduceEqDiff, reduceIte, Nat.reduceAdd, Nat.reduceMul, Nat.reduceLeDiff, Nat.reduceLT]
      refine cond_i (fun hb1 => ?_) (fun hb1 => ?_)
      · replace h := ifT (c := (decide ((IntKind.i64.wrap (a1 - ((List.length a0 : Nat) : Int))) < 0))) hb1 h
        try simp only [go_sem, Nat.reduceEqDiff, reduceIte, Nat.reduceAdd, Nat.reduceMul, Nat.reduceLeDiff, Nat.reduceLT]
        obtain rfl := Option.some.inj h
        simp only [go_sem, Nat.reduceEqDiff, reduceIte, Nat.reduceAdd, Nat.reduceMul, Nat.reduceLeDiff, Nat.reduceLT]
      · replace h := ifF (c := (decide ((IntKind.i64.wrap (a1 - ((List.length a0 : Nat) : Int))) < 0))) hb1 h
        try simp only [go_sem, Nat.reduceEqDiff, reduceIte, Nat.reduceAdd, Nat.reduceMul, Nat.reduceLeDiff, Nat.reduceLT]
        refine seq_go ?_
        try simp only [go_sem, Nat.reduceEqDiff, reduceIte, Nat.reduceAdd, Nat.reduceMul, Nat.reduceLeDiff, Nat.reduceLT]
        have hj := posF_to rfl rfl (ih2 a0 (IntKind.i64.wrap (a1 - ((List.length a0 : Nat) : Int))) 0 _ h)
        refine loop_to hj (.one ⟨_, .done _, [], [], ?_⟩)
        clear hj
        try simp only [go_sem, Nat.reduceEqDiff, reduceIte, Nat.reduceAdd, Nat.reduceMul, Nat.reduceLeDiff, Nat.reduceLT]
    · intro a0 p0_0 p0_1 r h
      rw [l_szTypeS_l1] at h
      refine posF_of rfl rfl ?_
      try simp only [go_sem, Nat.reduceEqDiff, reduceIte, Nat.reduceAdd, Nat.reduceMul, Nat.reduceLeDiff, Nat.reduceLT]
      refine loop_i ?_
      try simp only [go_sem, Nat.reduceEqDiff, reduceIte, Nat.reduceAdd, Nat.reduceMul, Nat.reduceLeDiff, Nat.reduceLT]
      refine cond_i (fun hb2 => ?_) (fun hb2 => ?_)
      · replace h := ifT (c := (decide (p0_1 < ((List.length a0 : Nat) : Int)))) hb2 h
        try simp only [go_sem, Nat.reduceEqDiff, reduceIte, Nat.reduceAdd, Nat.reduceMul, Nat.reduceLeDiff, Nat.reduceLT]
        refine seq_go ?_
        try simp only [go_sem, Nat.reduceEqDiff, reduceIte, Nat.reduceAdd, Nat.reduceMul, Nat.reduceLeDiff, Nat.reduceLT]
        obtain ⟨v8002, hv8002, h⟩ := bindE h
        refine idx_m hv8002 (TType.ds_len _) ?_
        try simp only [go_sem, Nat.reduceEqDiff, reduceIte, Nat.reduceAdd, Nat.reduceMul, Nat.reduceLeDiff, Nat.reduceLT]
        obtain ⟨v8005, hv8005, h⟩ := bindE h
        refine call_i (ih0 _ _ _ hv8005) ?_
        try simp only [go_sem, Nat.reduceEqDiff, reduceIte, Nat.reduceAdd, Nat.reduceMul, Nat.reduceLeDiff, Nat.reduceLT]
        refine cond_i (fun hb3 => ?_) (fun hb3 => ?_)
        · replace h := ifT (c := (decide (v8005 < 0))) hb3 h
          try simp only [go_sem, Nat.reduceEqDiff, reduceIte, Nat.reduceAdd, Nat.reduceMul, Nat.reduceLeDiff, Nat.reduceLT]
          obtain rfl := Option.some.inj h
          simp only [go_sem, Nat.reduceEqDiff, reduceIte, Nat.reduceAdd, Nat.reduceMul, Nat.reduceLeDiff, Nat.reduceLT]
        · replace h := ifF (c := (decide (v8005 < 0))) hb3 h
          try simp only [go_sem, Nat.reduceEqDiff, reduceIte, Nat.reduceAdd, Nat.reduceMul, Nat.reduceLeDiff, Nat.reduceLT]
          refine seq_go ?_
          try simp only [go_sem, Nat.reduceEqDiff, reduceIte, Nat.reduceAdd, Nat.reduceMul, Nat.reduceLeDiff, Nat.reduceLT]
          have hj := posF_to rfl rfl (ih2 a0 v8005 (IntKind.i64.wrap (p0_1 + 1)) _ h)
          refine lp_to hj (.one ⟨_, .done _, [], [], ?_⟩)
          clear hj
          try simp only [go_sem, Nat.reduceEqDiff, reduceIte, Nat.reduceAdd, Nat.reduceMul, Nat.reduceLeDiff, Nat.reduceLT]
      · replace h := ifF (c := (decide (p0_1 < ((List.length a0 : Nat) : Int)))) hb2 h
        try simp only [go_sem, Nat.reduceEqDiff, reduceIte, Nat.reduceAdd, Nat.reduceMul, Nat.reduceLeDiff, Nat.reduceLT]
        refine seq_go ?_
        try simp only [go_sem, Nat.reduceEqDiff, reduceIte, Nat.reduceAdd, Nat.reduceMul, Nat.reduceLeDiff, Nat.reduceLT]
        obtain rfl := Option.some.inj h
        simp only [go_sem, Nat.reduceEqDiff, reduceIte, Nat.reduceAdd, Nat.reduceMul, Nat.reduceLeDiff, Nat.reduceLT]
theorem l_szType_ok (n : Nat) : (∀ (a0 : TType) (a1 : Int) (r : Int), l_szType n a0 a1 = some r → AC Try.prog 292 [.agg (TType.avs a0), .int .i64 a1] (.int .i64 r)) := (l_szType_all n).1
theorem l_szTypeS_ok (n : Nat) : (∀ (a0 : List TType) (a1 : Int) (r : Int), l_szTypeS n a0 a1 = some r → AC Try.prog 337 [.ro (List.map TType.ds a0), .int .i64 a1] (.int .i64 r)) := (l_szType_all n).2.1
theorem l_szTypeS_l1_ok (n : Nat) : (∀ (a0 : List TType) (p0_0 : Int) (p0_1 : Int) (r : Int), l_szTypeS_l1 n a0 p0_0 p0_1 = some r → posF Try.prog Try.f337 [1, 1, 1, 0, 1, 0] (.int .i64 r) ⟨[(0, .ro (List.map TType.ds a0)), (1, .int .i64 p0_0), (5, .int .i64 p0_1)], [], []⟩) := (l_szType_all n).2.2

theorem l_szConstructor_ok (a0 : Constructor) (a1 : Int) (r : Int) (h : l_szConstructor a0 a1 = some r) : AC Try.prog 336 [.agg (Constructor.avs a0), .int .i64 a1] (.int .i64 r) := by
  unfold l_szConstructor at h
  refine ac_fn mixed Try.func336 rfl rfl rfl (by kernel_rfl) (by kernel_rfl) ?_
  try simp only [go_sem, Nat.reduceEqDiff, reduceIte, Nat.reduceAdd, Nat.reduceMul, Nat.reduceLeDiff, Nat.reduceLT]
  refine cond_i (fun hb1 => ?_) (fun hb1 => ?_)
  · replace h := ifT (c := (decide ((IntKind.i64.wrap (a1 - ((ByteArray.size a0.name : Nat) : Int))) < 0))) hb1 h
    try simp only [go_sem, Nat.reduceEqDiff, reduceIte, Nat.reduceAdd, Nat.reduceMul, Nat.reduceLeDiff, Nat.reduceLT]
    obtain rfl := Option.some.inj h
    simp only [go_sem, Nat.reduceEqDiff, reduceIte, Nat.reduceAdd, Nat.reduceMul, Nat.reduceLeDiff, Nat.reduceLT]
  · replace h := ifF (c := (decide ((IntKind.i64.wrap (a1 - ((ByteArray.size a0.name : Nat) : Int))) < 0))) hb1 h
    try simp only [go_sem, Nat.reduceEqDiff, reduceIte, Nat.reduceAdd, Nat.reduceMul, Nat.reduceLeDiff, Nat.reduceLT]
    refine seq_go ?_
    try simp only [go_sem, Nat.reduceEqDiff, reduceIte, Nat.reduceAdd, Nat.reduceMul, Nat.reduceLeDiff, Nat.reduceLT]
    obtain ⟨v5003, hv5003, h⟩ := bindE h
    refine call_i (l_szTypeS_ok fuel _ _ _ hv5003) ?_
    try simp only [go_sem, Nat.reduceEqDiff, reduceIte, Nat.reduceAdd, Nat.reduceMul, Nat.reduceLeDiff, Nat.reduceLT]
    refine cond_i (fun hb2 => ?_) (fun hb2 => ?_)
    · replace h := ifT (c := (decide (v5003 < 0))) hb2 h
      try simp only [go_sem, Nat.reduceEqDiff, reduceIte, Nat.reduceAdd, Nat.reduceMul, Nat.reduceLeDiff, Nat.reduceLT]
      obtain rfl := Option.some.inj h
      simp only [go_sem, Nat.reduceEqDiff, reduceIte, Nat.reduceAdd, Nat.reduceMul, Nat.reduceLeDiff, Nat.reduceLT]
    · replace h := ifF (c := (decide (v5003 < 0))) hb2 h
      try simp only [go_sem, Nat.reduceEqDiff, reduceIte, Nat.reduceAdd, Nat.reduceMul, Nat.reduceLeDiff, Nat.reduceLT]
      refine seq_go ?_
      try simp only [go_sem, Nat.reduceEqDiff, reduceIte, Nat.reduceAdd, Nat.reduceMul, Nat.reduceLeDiff, Nat.reduceLT]
      obtain rfl := Option.some.inj h
      simp only [go_sem, Nat.reduceEqDiff, reduceIte, Nat.reduceAdd, Nat.reduceMul, Nat.reduceLeDiff, Nat.reduceLT]
theorem l_szConstructorS_l1_all (n : Nat) : (∀ (a0 : List Constructor) (p0_0 : Int) (p0_1 : Int) (r : Int), l_szConstructorS_l1 n a0 p0_0 p0_1 = some r → posF Try.prog Try.f291 [1, 1, 1, 0, 1, 0] (.int .i64 r) ⟨[(0, .ro (List.map Constructor.ds a0)), (1, .int .i64 p0_0), (5, .int .i64 p0_1)], [], []⟩) := by
  induction n with
  | zero => exact ((fun _ _ _ _ h => by rw [l_szConstructorS_l1] at h; cases h))
  | succ n ih =>
    have ih0 := ih
    · intro a0 p0_0 p0_1 r h
      rw [l_szConstructorS_l1] at h
      refine posF_of rfl rfl ?_
      try simp only [go_sem, Nat.reduceEqDiff, reduceIte, Nat.reduceAdd, Nat.reduceMul, Nat.reduceLeDiff, Nat.reduceLT]
      refine loop_i ?_
      try simp only [go_sem, Nat.reduceEqDiff, reduceIte, Nat.reduceAdd, Nat.reduceMul, Nat.reduceLeDiff, Nat.reduceLT]
      refine cond_i (fun hb2 => ?_) (fun hb2 => ?_)
      · replace h := ifT (c := (decide (p0_1 < ((List.length a0 : Nat) : Int)))) hb2 h
        try simp only [go_sem, Nat.reduceEqDiff, reduceIte, Nat.reduceAdd, Nat.reduceMul, Nat.reduceLeDiff, Nat.reduceLT]
        refine seq_go ?_
        try simp only [go_sem, Nat.reduceEqDiff, reduceIte, Nat.reduceAdd, Nat.reduceMul, Nat.reduceLeDiff, Nat.reduceLT]
        obtain ⟨v8002, hv8002, h⟩ := bindE h
        refine idx_m hv8002 (Constructor.ds_len _) ?_
        try simp only [go_sem, Nat.reduceEqDiff, reduceIte, Nat.reduceAdd, Nat.reduceMul, Nat.reduceLeDiff, Nat.reduceLT]
        obtain ⟨v8005, hv8005, h⟩ := bindE h
        refine call_i (l_szConstructor_ok _ _ _ hv8005) ?_
        try simp only [go_sem, Nat.reduceEqDiff, reduceIte, Nat.reduceAdd, Nat.reduceMul, Nat.reduceLeDiff, Nat.reduceLT]
        refine cond_i (fun hb3 => ?_) (fun hb3 => ?_)
        · replace h := ifT (c := (decide (v8005 < 0))) hb3 h
          try simp only [go_sem, Nat.reduceEqDiff, reduceIte, Nat.reduceAdd, Nat.reduceMul, Nat.reduceLeDiff, Nat.reduceLT]
          obtain rfl := Option.some.inj h
          simp only [go_sem, Nat.reduceEqDiff, reduceIte, Nat.reduceAdd, Nat.reduceMul, Nat.reduceLeDiff, Nat.reduceLT]
        · replace h := ifF (c := (decide (v8005 < 0))) hb3 h
          try simp only [go_sem, Nat.reduceEqDiff, reduceIte, Nat.reduceAdd, Nat.reduceMul, Nat.reduceLeDiff, Nat.reduceLT]
          refine seq_go ?_
          try simp only [go_sem, Nat.reduceEqDiff, reduceIte, Nat.reduceAdd, Nat.reduceMul, Nat.reduceLeDiff, Nat.reduceLT]
          have hj := posF_to rfl rfl (ih0 a0 v8005 (IntKind.i64.wrap (p0_1 + 1)) _ h)
          refine lp_to hj (.one ⟨_, .done _, [], [], ?_⟩)
          clear hj
          try simp only [go_sem, Nat.reduceEqDiff, reduceIte, Nat.reduceAdd, Nat.reduceMul, Nat.reduceLeDiff, Nat.reduceLT]
      · replace h := ifF (c := (decide (p0_1 < ((List.length a0 : Nat) : Int)))) hb2 h
        try simp only [go_sem, Nat.reduceEqDiff, reduceIte, Nat.reduceAdd, Nat.reduceMul, Nat.reduceLeDiff, Nat.reduceLT]
        refine seq_go ?_
        try simp only [go_sem, Nat.reduceEqDiff, reduceIte, Nat.reduceAdd, Nat.reduceMul, Nat.reduceLeDiff, Nat.reduceLT]
        obtain rfl := Option.some.inj h
        simp only [go_sem, Nat.reduceEqDiff, reduceIte, Nat.reduceAdd, Nat.reduceMul, Nat.reduceLeDiff, Nat.reduceLT]
theorem l_szConstructorS_l1_ok (n : Nat) : (∀ (a0 : List Constructor) (p0_0 : Int) (p0_1 : Int) (r : Int), l_szConstructorS_l1 n a0 p0_0 p0_1 = some r → posF Try.prog Try.f291 [1, 1, 1, 0, 1, 0] (.int .i64 r) ⟨[(0, .ro (List.map Constructor.ds a0)), (1, .int .i64 p0_0), (5, .int .i64 p0_1)], [], []⟩) := (l_szConstructorS_l1_all n)

theorem l_szConstructorS_ok (a0 : List Constructor) (a1 : Int) (r : Int) (h : l_szConstructorS a0 a1 = some r) : AC Try.prog 291 [.ro (List.map Constructor.ds a0), .int .i64 a1] (.int .i64 r) := by
  unfold l_szConstructorS at h
  refine ac_fn mixed Try.func291 rfl rfl rfl (by kernel_rfl) (by kernel_rfl) ?_
  try simp only [go_sem, Nat.reduceEqDiff, reduceIte, Nat.reduceAdd, Nat.reduceMul, Nat.reduceLeDiff, Nat.reduceLT]
  refine cond_i (fun hb1 => ?_) (fun hb1 => ?_)
  · replace h := ifT (c := (decide ((IntKind.i64.wrap (a1 - ((List.length a0 : Nat) : Int))) < 0))) hb1 h
    try simp only [go_sem, Nat.reduceEqDiff, reduceIte, Nat.reduceAdd, Nat.reduceMul, Nat.reduceLeDiff, Nat.reduceLT]
    obtain rfl := Option.some.inj h
    simp only [go_sem, Nat.reduceEqDiff, reduceIte, Nat.reduceAdd, Nat.reduceMul, Nat.reduceLeDiff, Nat.reduceLT]
  · replace h := ifF (c := (decide ((IntKind.i64.wrap (a1 - ((List.length a0 : Nat) : Int))) < 0))) hb1 h
    try simp only [go_sem, Nat.reduceEqDiff, reduceIte, Nat.reduceAdd, Nat.reduceMul, Nat.reduceLeDiff, Nat.reduceLT]
    refine seq_go ?_
    try simp only [go_sem, Nat.reduceEqDiff, reduceIte, Nat.reduceAdd, Nat.reduceMul, Nat.reduceLeDiff, Nat.reduceLT]
    have hj := posF_to rfl rfl (l_szConstructorS_l1_ok fuel a0 (IntKind.i64.wrap (a1 - ((List.length a0 : Nat) : Int))) 0 _ h)
    refine loop_to hj (.one ⟨_, .done _, [], [], ?_⟩)
    clear hj
    try simp only [go_sem, Nat.reduceEqDiff, reduceIte, Nat.reduceAdd, Nat.reduceMul, Nat.reduceLeDiff, Nat.reduceLT]
theorem l_szData_ok (a0 : Data) (a1 : Int) (r : Int) (h : l_szData a0 a1 = some r) : AC Try.prog 231 [.agg (Data.avs a0), .int .i64 a1] (.int .i64 r) := by
  unfold l_szData at h
  refine ac_fn mixed Try.func231 rfl rfl rfl (by kernel_rfl) (by kernel_rfl) ?_
  try simp only [go_sem, Nat.reduceEqDiff, reduceIte, Nat.reduceAdd, Nat.reduceMul, Nat.reduceLeDiff, Nat.reduceLT]
  refine cond_i (fun hb1 => ?_) (fun hb1 => ?_)
  · replace h := ifT (c := (decide ((IntKind.i64.wrap (a1 - ((ByteArray.size a0.name : Nat) : Int))) < 0))) hb1 h
    try simp only [go_sem, Nat.reduceEqDiff, reduceIte, Nat.reduceAdd, Nat.reduceMul, Nat.reduceLeDiff, Nat.reduceLT]
    obtain rfl := Option.some.inj h
    simp only [go_sem, Nat.reduceEqDiff, reduceIte, Nat.reduceAdd, Nat.reduceMul, Nat.reduceLeDiff, Nat.reduceLT]
  · replace h := ifF (c := (decide ((IntKind.i64.wrap (a1 - ((ByteArray.size a0.name : Nat) : Int))) < 0))) hb1 h
    try simp only [go_sem, Nat.reduceEqDiff, reduceIte, Nat.reduceAdd, Nat.reduceMul, Nat.reduceLeDiff, Nat.reduceLT]
    refine seq_go ?_
    try simp only [go_sem, Nat.reduceEqDiff, reduceIte, Nat.reduceAdd, Nat.reduceMul, Nat.reduceLeDiff, Nat.reduceLT]
    obtain ⟨v5003, hv5003, h⟩ := bindE h
    refine call_i (l_szConstructorS_ok _ _ _ hv5003) ?_
    try simp only [go_sem, Nat.reduceEqDiff, reduceIte, Nat.reduceAdd, Nat.reduceMul, Nat.reduceLeDiff, Nat.reduceLT]
    refine cond_i (fun hb2 => ?_) (fun hb2 => ?_)
    · replace h := ifT (c := (decide (v5003 < 0))) hb2 h
      try simp only [go_sem, Nat.reduceEqDiff, reduceIte, Nat.reduceAdd, Nat.reduceMul, Nat.reduceLeDiff, Nat.reduceLT]
      obtain rfl := Option.some.inj h
      simp only [go_sem, Nat.reduceEqDiff, reduceIte, Nat.reduceAdd, Nat.reduceMul, Nat.reduceLeDiff, Nat.reduceLT]
    · replace h := ifF (c := (decide (v5003 < 0))) hb2 h
      try simp only [go_sem, Nat.reduceEqDiff, reduceIte, Nat.reduceAdd, Nat.reduceMul, Nat.reduceLeDiff, Nat.reduceLT]
      refine seq_go ?_
      try simp only [go_sem, Nat.reduceEqDiff, reduceIte, Nat.reduceAdd, Nat.reduceMul, Nat.reduceLeDiff, Nat.reduceLT]
      obtain rfl := Option.some.inj h
      simp only [go_sem, Nat.reduceEqDiff, reduceIte, Nat.reduceAdd, Nat.reduceMul, Nat.reduceLeDiff, Nat.reduceLT]
theorem l_szDataS_l1_all (n : Nat) : (∀ (a0 : List Data) (p0_0 : Int) (p0_1 : Int) (r : Int), l_szDataS_l1 n a0 p0_0 p0_1 = some r → posF Try.prog Try.f158 [1, 1, 1, 0, 1, 0] (.int .i64 r) ⟨[(0, .ro (List.map Data.ds a0)), (1, .int .i64 p0_0), (5, .int .i64 p0_1)], [], []⟩) := by
  induction n with
  | zero => exact ((fun _ _ _ _ h => by rw [l_szDataS_l1] at h; cases h))
  | succ n ih =>
    have ih0 := ih
    · intro a0 p0_0 p0_1 r h
      rw [l_szDataS_l1] at h
      refine posF_of rfl rfl ?_
      try simp only [go_sem, Nat.reduceEqDiff, reduceIte, Nat.reduceAdd, Nat.reduceMul, Nat.reduceLeDiff, Nat.reduceLT]
      refine loop_i ?_
      try simp only [go_sem, Nat.reduceEqDiff, reduceIte, Nat.reduceAdd, Nat.reduceMul, Nat.reduceLeDiff, Nat.reduceLT]
      refine cond_i (fun hb2 => ?_) (fun hb2 => ?_)
      · replace h := ifT (c := (decide (p0_1 < ((List.length a0 : Nat) : Int)))) hb2 h
        try simp only [go_sem, Nat.reduceEqDiff, reduceIte, Nat.reduceAdd, Nat.reduceMul, Nat.reduceLeDiff, Nat.reduceLT]
        refine seq_go ?_
        try simp only [go_sem, Nat.reduceEqDiff, reduceIte, Nat.reduceAdd, Nat.reduceMul, Nat.reduceLeDiff, Nat.reduceLT]
        obtain ⟨v8002, hv8002, h⟩ := bindE h
        refine idx_m hv8002 (Data.ds_len _) ?_
        try simp only [go_sem, Nat.reduceEqDiff, reduceIte, Nat.reduceAdd, Nat.reduceMul, Nat.reduceLeDiff, Nat.reduceLT]
        obtain ⟨v8005, hv8005, h⟩ := bindE h
        refine call_i (l_szData_ok _ _ _ hv8005) ?_
        try simp only [go_sem, Nat.reduceEqDiff, reduceIte, Nat.reduceAdd, Nat.reduceMul, Nat.reduceLeDiff, Nat.reduceLT]
        refine cond_i (fun hb3 => ?_) (fun hb3 => ?_)
        · replace h := ifT (c := (decide (v8005 < 0))) hb3 h
          try simp only [go_sem, Nat.reduceEqDiff, reduceIte, Nat.reduceAdd, Nat.reduceMul, Nat.reduceLeDiff, Nat.reduceLT]
          obtain rfl := Option.some.inj h
          simp only [go_sem, Nat.reduceEqDiff, reduceIte, Nat.reduceAdd, Nat.reduceMul, Nat.reduceLeDiff, Nat.reduceLT]
        · replace h := ifF (c := (decide (v8005 < 0))) hb3 h
          try simp only [go_sem, Nat.reduceEqDiff, reduceIte, Nat.reduceAdd, Nat.reduceMul, Nat.reduceLeDiff, Nat.reduceLT]
          refine seq_go ?_
          try simp only [go_sem, Nat.reduceEqDiff, reduceIte, Nat.reduceAdd, Nat.reduceMul, Nat.reduceLeDiff, Nat.reduceLT]
          have hj := posF_to rfl rfl (ih0 a0 v8005 (IntKind.i64.wrap (p0_1 + 1)) _ h)
          refine lp_to hj (.one ⟨_, .done _, [], [], ?_⟩)
          clear hj
          try simp only [go_sem, Nat.reduceEqDiff, reduceIte, Nat.reduceAdd, Nat.reduceMul, Nat.reduceLeDiff, Nat.reduceLT]
      · replace h := ifF (c := (decide (p0_1 < ((List.length a0 : Nat) : Int)))) hb2 h
        try simp only [go_sem, Nat.reduceEqDiff, reduceIte, Nat.reduceAdd, Nat.reduceMul, Nat.reduceLeDiff, Nat.reduceLT]
        refine seq_go ?_
        try simp only [go_sem, Nat.reduceEqDiff, reduceIte, Nat.reduceAdd, Nat.reduceMul, Nat.reduceLeDiff, Nat.reduceLT]
        obtain rfl := Option.some.inj h
        simp only [go_sem, Nat.reduceEqDiff, reduceIte, Nat.reduceAdd, Nat.reduceMul, Nat.reduceLeDiff, Nat.reduceLT]
theorem l_szDataS_l1_ok (n : Nat) : (∀ (a0 : List Data) (p0_0 : Int) (p0_1 : Int) (r : Int), l_szDataS_l1 n a0 p0_0 p0_1 = some r → posF Try.prog Try.f158 [1, 1, 1, 0, 1, 0] (.int .i64 r) ⟨[(0, .ro (List.map Data.ds a0)), (1, .int .i64 p0_0), (5, .int .i64 p0_1)], [], []⟩) := (l_szDataS_l1_all n)

theorem l_szDataS_ok (a0 : List Data) (a1 : Int) (r : Int) (h : l_szDataS a0 a1 = some r) : AC Try.prog 158 [.ro (List.map Data.ds a0), .int .i64 a1] (.int .i64 r) := by
  unfold l_szDataS at h
  refine ac_fn mixed Try.func158 rfl rfl rfl (by kernel_rfl) (by kernel_rfl) ?_
  try simp only [go_sem, Nat.reduceEqDiff, reduceIte, Nat.reduceAdd, Nat.reduceMul, Nat.reduceLeDiff, Nat.reduceLT]
  refine cond_i (fun hb1 => ?_) (fun hb1 => ?_)
  · replace h := ifT (c := (decide ((IntKind.i64.wrap (a1 - ((List.length a0 : Nat) : Int))) < 0))) hb1 h
    try simp only [go_sem, Nat.reduceEqDiff, reduceIte, Nat.reduceAdd, Nat.reduceMul, Nat.reduceLeDiff, Nat.reduceLT]
    obtain rfl := Option.some.inj h
    simp only [go_sem, Nat.reduceEqDiff, reduceIte, Nat.reduceAdd, Nat.reduceMul, Nat.reduceLeDiff, Nat.reduceLT]
  · replace h := ifF (c := (decide ((IntKind.i64.wrap (a1 - ((List.length a0 : Nat) : Int))) < 0))) hb1 h
    try simp only [go_sem, Nat.reduceEqDiff, reduceIte, Nat.reduceAdd, Nat.reduceMul, Nat.reduceLeDiff, Nat.reduceLT]
    refine seq_go ?_
    try simp only [go_sem, Nat.reduceEqDiff, reduceIte, Nat.reduceAdd, Nat.reduceMul, Nat.reduceLeDiff, Nat.reduceLT]
    have hj := posF_to rfl rfl (l_szDataS_l1_ok fuel a0 (IntKind.i64.wrap (a1 - ((List.length a0 : Nat) : Int))) 0 _ h)
    refine loop_to hj (.one ⟨_, .done _, [], [], ?_⟩)
    clear hj
    try simp only [go_sem, Nat.reduceEqDiff, reduceIte, Nat.reduceAdd, Nat.reduceMul, Nat.reduceLeDiff, Nat.reduceLT]
theorem l_szTermS_all (n : Nat) : (∀ (a0 : List Term) (a1 : Int) (r : Int), l_szTermS n a0 a1 = some r → AC Try.prog 339 [.ro (List.map Term.ds a0), .int .i64 a1] (.int .i64 r)) ∧
    (∀ (a0 : List Term) (p0_0 : Int) (p0_1 : Int) (r : Int), l_szTermS_l1 n a0 p0_0 p0_1 = some r → posF Try.prog Try.f339 [1, 1, 1, 0, 1, 0] (.int .i64 r) ⟨[(0, .ro (List.map Term.ds a0)), (1, .int .i64 p0_0), (5, .int .i64 p0_1)], [], []⟩) ∧
    (∀ (a0 : Term) (a1 : Int) (r : Int), l_szTerm n a0 a1 = some r → AC Try.prog 293 [.agg (Term.avs a0), .int .i64 a1] (.int .i64 r)) := by
  induction n with
  | zero => exact ⟨(fun _ _ _ h => by rw [l_szTermS] at h; cases h), (fun _ _ _ _ h => by rw [l_szTermS_l1] at h; cases h), (fun _ _ _ h => by rw [l_szTerm] at h; cases h)⟩
  | succ n ih =>
    obtain ⟨ih0, ih1, ih2⟩ := ih
    refine ⟨?_, ?_, ?_⟩
    · intro a0 a1 r h
      rw [l_szTermS] at h
      refine ac_fn mixed Try.func339 rfl rfl rfl (by kernel_rfl) (by kernel_rfl) ?_
      try simp only [go_sem, Nat.reduceEqDiff, reduceIte, Nat.reduceAdd, Nat.reduceMul, Nat.reduceLeDiff, Nat.reduceLT]
      refine cond_i (fun hb1 => ?_) (fun hb1 => ?_)
      · replace h := ifT (c := (decide ((IntKind.i64.wrap (a1 - ((List.length a0 : Nat) : Int))) < 0))) hb1 h
        try simp only [go_sem, Nat.reduceEqDiff, reduceIte, Nat.reduceAdd, Nat.reduceMul, Nat.reduceLeDiff, Nat.reduceLT]
        obtain rfl := Option.some.inj h
        simp only [go_sem, Nat.reduceEqDiff, reduceIte, Nat.reduceAdd, Nat.reduceMul, Nat.reduceLeDiff, Nat.reduceLT]
      · replace h := ifF (c := (decide ((IntKind.i64.wrap (a1 - ((List.length a0 : Nat) : Int))) < 0))) hb1 h
        try simp only [go_sem, Nat.reduceEqDiff, reduceIte, Nat.reduceAdd, Nat.reduceMul, Nat.reduceLeDiff, Nat.reduceLT]
        refine seq_go ?_
        try simp only [go_sem, Nat.reduceEqDiff, reduceIte, Nat.reduceAdd, Nat.reduceMul, Nat.reduceLeDiff, Nat.reduceLT]
        have hj := posF_to rfl rfl (ih1 a0 (IntKind.i64.wrap (a1 - ((List.length a0 : Nat) : Int))) 0 _ h)
        refine loop_to hj (.one ⟨_, .done _, [], [], ?_⟩)
        clear hj
        try simp only [go_sem, Nat.reduceEqDiff, reduceIte, Nat.reduceAdd, Nat.reduceMul, Nat.reduceLeDiff, Nat.reduceLT]
    · intro a0 p0_0 p0_1 r h
      rw [l_szTermS_l1] at h
      refine posF_of rfl rfl ?_
      try simp only [go_sem, Nat.reduceEqDiff, reduceIte, Nat.reduceAdd, Nat.reduceMul, Nat.reduceLeDiff, Nat.reduceLT]
      refine loop_i ?_
      try simp only [go_sem, Nat.reduceEqDiff, reduceIte, Nat.reduceAdd, Nat.reduceMul, Nat.reduceLeDiff, Nat.reduceLT]
      refine cond_i (fun hb2 => ?_) (fun hb2 => ?_)
      · replace h := ifT (c := (decide (p0_1 < ((List.length a0 : Nat) : Int)))) hb2 h
        try simp only [go_sem, Nat.reduceEqDiff, reduceIte, Nat.reduceAdd, Nat.reduceMul, Nat.reduceLeDiff, Nat.reduceLT]
        refine seq_go ?_
        try simp only [go_sem, Nat.reduceEqDiff, reduceIte, Nat.reduceAdd, Nat.reduceMul, Nat.reduceLeDiff, Nat.reduceLT]
        obtain ⟨v8002, hv8002, h⟩ := bindE h
        refine idx_m hv8002 (Term.ds_len _) ?_
        try simp only [go_sem, Nat.reduceEqDiff, reduceIte, Nat.reduceAdd, Nat.reduceMul, Nat.reduceLeDiff, Nat.reduceLT]
        obtain ⟨v8005, hv8005, h⟩ := bindE h
        refine call_i (ih2 _ _ _ hv8005) ?_
        try simp only [go_sem, Nat.reduceEqDiff, reduceIte, Nat.reduceAdd, Nat.reduceMul, Nat.reduceLeDiff, Nat.reduceLT]
        refine cond_i (fun hb3 => ?_) (fun hb3 => ?_)
        · replace h := ifT (c := (decide (v8005 < 0))) hb3 h
          try simp only [go_sem, Nat.reduceEqDiff, reduceIte, Nat.reduceAdd, Nat.reduceMul, Nat.reduceLeDiff, Nat.reduceLT]
          obtain rfl := Option.some.inj h
          simp only [go_sem, Nat.reduceEqDiff, reduceIte, Nat.reduceAdd, Nat.reduceMul, Nat.reduceLeDiff, Nat.reduceLT]
        · replace h := ifF (c := (decide (v8005 < 0))) hb3 h
          try simp only [go_sem, Nat.reduceEqDiff, reduceIte, Nat.reduceAdd, Nat.reduceMul, Nat.reduceLeDiff, Nat.reduceLT]
          refine seq_go ?_
          try simp only [go_sem, Nat.reduceEqDiff, reduceIte, Nat.reduceAdd, Nat.reduceMul, Nat.reduceLeDiff, Nat.reduceLT]
          have hj := posF_to rfl rfl (ih1 a0 v8005 (IntKind.i64.wrap (p0_1 + 1)) _ h)
          refine lp_to hj (.one ⟨_, .done _, [], [], ?_⟩)
          clear hj
          try simp only [go_sem, Nat.reduceEqDiff, reduceIte, Nat.reduceAdd, Nat.reduceMul, Nat.reduceLeDiff, Nat.reduceLT]
      · replace h := ifF (c := (decide (p0_1 < ((List.length a0 : Nat) : Int)))) hb2 h
        try simp only [go_sem, Nat.reduceEqDiff, reduceIte, Nat.reduceAdd, Nat.reduceMul, Nat.reduceLeDiff, Nat.reduceLT]
        refine seq_go ?_
        try simp only [go_sem, Nat.reduceEqDiff, reduceIte, Nat.reduceAdd, Nat.reduceMul, Nat.reduceLeDiff, Nat.reduceLT]
        obtain rfl := Option.some.inj h
        simp only [go_sem, Nat.reduceEqDiff, reduceIte, Nat.reduceAdd, Nat.reduceMul, Nat.reduceLeDiff, Nat.reduceLT]
    · intro a0 a1 r h
      rw [l_szTerm] at h
      refine ac_fn mixed Try.func293 rfl rfl rfl (by kernel_rfl) (by kernel_rfl) ?_
      try simp only [go_sem, Nat.reduceEqDiff, reduceIte, Nat.reduceAdd, Nat.reduceMul, Nat.reduceLeDiff, Nat.reduceLT]
      refine cond_i (fun hb1 => ?_) (fun hb1 => ?_)
      · replace h := ifT (c := (decide ((IntKind.i64.wrap (a1 - ((ByteArray.size a0.name : Nat) : Int))) < 0))) hb1 h
        try simp only [go_sem, Nat.reduceEqDiff, reduceIte, Nat.reduceAdd, Nat.reduceMul, Nat.reduceLeDiff, Nat.reduceLT]
        obtain rfl := Option.some.inj h
        simp only [go_sem, Nat.reduceEqDiff, reduceIte, Nat.reduceAdd, Nat.reduceMul, Nat.reduceLeDiff, Nat.reduceLT]
      · replace h := ifF (c := (decide ((IntKind.i64.wrap (a1 - ((ByteArray.size a0.name : Nat) : Int))) < 0))) hb1 h
        try simp only [go_sem, Nat.reduceEqDiff, reduceIte, Nat.reduceAdd, Nat.reduceMul, Nat.reduceLeDiff, Nat.reduceLT]
        refine seq_go ?_
        try simp only [go_sem, Nat.reduceEqDiff, reduceIte, Nat.reduceAdd, Nat.reduceMul, Nat.reduceLeDiff, Nat.reduceLT]
        obtain ⟨v5003, hv5003, h⟩ := bindE h
        refine call_i (l_szType_ok fuel _ _ _ hv5003) ?_
        try simp only [go_sem, Nat.reduceEqDiff, reduceIte, Nat.reduceAdd, Nat.reduceMul, Nat.reduceLeDiff, Nat.reduceLT]
        refine cond_i (fun hb2 => ?_) (fun hb2 => ?_)
        · replace h := ifT (c := (decide (v5003 < 0))) hb2 h
          try simp only [go_sem, Nat.reduceEqDiff, reduceIte, Nat.reduceAdd, Nat.reduceMul, Nat.reduceLeDiff, Nat.reduceLT]
          obtain rfl := Option.some.inj h
          simp only [go_sem, Nat.reduceEqDiff, reduceIte, Nat.reduceAdd, Nat.reduceMul, Nat.reduceLeDiff, Nat.reduceLT]
        · replace h := ifF (c := (decide (v5003 < 0))) hb2 h
          try simp only [go_sem, Nat.reduceEqDiff, reduceIte, Nat.reduceAdd, Nat.reduceMul, Nat.reduceLeDiff, Nat.reduceLT]
          refine seq_go ?_
          try simp only [go_sem, Nat.reduceEqDiff, reduceIte, Nat.reduceAdd, Nat.reduceMul, Nat.reduceLeDiff, Nat.reduceLT]
          obtain ⟨v8003, hv8003, h⟩ := bindE h
          refine call_i (l_szStringS_ok _ _ _ hv8003) ?_
          try simp only [go_sem, Nat.reduceEqDiff, reduceIte, Nat.reduceAdd, Nat.reduceMul, Nat.reduceLeDiff, Nat.reduceLT]
          refine cond_i (fun hb3 => ?_) (fun hb3 => ?_)
          · replace h := ifT (c := (decide (v8003 < 0))) hb3 h
            try simp only [go_sem, Nat.reduceEqDiff, reduceIte, Nat.reduceAdd, Nat.reduceMul, Nat.reduceLeDiff, Nat.reduceLT]
            obtain rfl := Option.some.inj h
            simp only [go_sem, Nat.reduceEqDiff, reduceIte, Nat.reduceAdd, Nat.reduceMul, Nat.reduceLeDiff, Nat.reduceLT]
          · replace h := ifF (c := (decide (v8003 < 0))) hb3 h
            try simp only [go_sem, Nat.reduceEqDiff, reduceIte, Nat.reduceAdd, Nat.reduceMul, Nat.reduceLeDiff, Nat.reduceLT]
            refine seq_go ?_
            try simp only [go_sem, Nat.reduceEqDiff, reduceIte, Nat.reduceAdd, Nat.reduceMul, Nat.reduceLeDiff, Nat.reduceLT]
            obtain ⟨v11003, hv11003, h⟩ := bindE h
            refine call_i (ih0 _ _ _ hv11003) ?_
            try simp only [go_sem, Nat.reduceEqDiff, reduceIte, Nat.reduceAdd, Nat.reduceMul, Nat.reduceLeDiff, Nat.reduceLT]
            refine cond_i (fun hb4 => ?_) (fun hb4 => ?_)
            · replace h := ifT (c := (decide (v11003 < 0))) hb4 h
              try simp only [go_sem, Nat.reduceEqDiff, reduceIte, Nat.reduceAdd, Nat.reduceMul, Nat.reduceLeDiff, Nat.reduceLT]
              obtain rfl := Option.some.inj h
              simp only [go_sem, Nat.reduceEqDiff, reduceIte, Nat.reduceAdd, Nat.reduceMul, Nat.reduceLeDiff, Nat.reduceLT]
            · replace h := ifF (c := (decide (v11003 < 0))) hb4 h
              try simp only [go_sem, Nat.reduceEqDiff, reduceIte, Nat.reduceAdd, Nat.reduceMul, Nat.reduceLeDiff, Nat.reduceLT]
              refine seq_go ?_
              try simp only [go_sem, Nat.reduceEqDiff, reduceIte, Nat.reduceAdd, Nat.reduceMul, Nat.reduceLeDiff, Nat.reduceLT]
              obtain rfl := Option.some.inj h
              simp only [go_sem, Nat.reduceEqDiff, reduceIte, Nat.reduceAdd, Nat.reduceMul, Nat.reduceLeDiff, Nat.reduceLT]
theorem l_szTermS_ok (n : Nat) : (∀ (a0 : List Term) (a1 : Int) (r : Int), l_szTermS n a0 a1 = some r → AC Try.prog 339 [.ro (List.map Term.ds a0), .int .i64 a1] (.int .i64 r)) := (l_szTermS_all n).1
theorem l_szTermS_l1_ok (n : Nat) : (∀ (a0 : List Term) (p0_0 : Int) (p0_1 : Int) (r : Int), l_szTermS_l1 n a0 p0_0 p0_1 = some r → posF Try.prog Try.f339 [1, 1, 1, 0, 1, 0] (.int .i64 r) ⟨[(0, .ro (List.map Term.ds a0)), (1, .int .i64 p0_0), (5, .int .i64 p0_1)], [], []⟩) := (l_szTermS_all n).2.1
theorem l_szTerm_ok (n : Nat) : (∀ (a0 : Term) (a1 : Int) (r : Int), l_szTerm n a0 a1 = some r → AC Try.prog 293 [.agg (Term.avs a0), .int .i64 a1] (.int .i64 r)) := (l_szTermS_all n).2.2

theorem l_szDef_ok (a0 : Def) (a1 : Int) (r : Int) (h : l_szDef a0 a1 = some r) : AC Try.prog 232 [.agg (Def.avs a0), .int .i64 a1] (.int .i64 r) := by
  unfold l_szDef at h
  refine ac_fn mixed Try.func232 rfl rfl rfl (by kernel_rfl) (by kernel_rfl) ?_
  try simp only [go_sem, Nat.reduceEqDiff, reduceIte, Nat.reduceAdd, Nat.reduceMul, Nat.reduceLeDiff, Nat.reduceLT]
  refine cond_i (fun hb1 => ?_) (fun hb1 => ?_)
  · replace h := ifT (c := (decide ((IntKind.i64.wrap (a1 - ((ByteArray.size a0.name : Nat) : Int))) < 0))) hb1 h
    try simp only [go_sem, Nat.reduceEqDiff, reduceIte, Nat.reduceAdd, Nat.reduceMul, Nat.reduceLeDiff, Nat.reduceLT]
    obtain rfl := Option.some.inj h
    simp only [go_sem, Nat.reduceEqDiff, reduceIte, Nat.reduceAdd, Nat.reduceMul, Nat.reduceLeDiff, Nat.reduceLT]
  · replace h := ifF (c := (decide ((IntKind.i64.wrap (a1 - ((ByteArray.size a0.name : Nat) : Int))) < 0))) hb1 h
    try simp only [go_sem, Nat.reduceEqDiff, reduceIte, Nat.reduceAdd, Nat.reduceMul, Nat.reduceLeDiff, Nat.reduceLT]
    refine seq_go ?_
    try simp only [go_sem, Nat.reduceEqDiff, reduceIte, Nat.reduceAdd, Nat.reduceMul, Nat.reduceLeDiff, Nat.reduceLT]
    obtain ⟨v5003, hv5003, h⟩ := bindE h
    refine call_i (l_szType_ok fuel _ _ _ hv5003) ?_
    try simp only [go_sem, Nat.reduceEqDiff, reduceIte, Nat.reduceAdd, Nat.reduceMul, Nat.reduceLeDiff, Nat.reduceLT]
    refine cond_i (fun hb2 => ?_) (fun hb2 => ?_)
    · replace h := ifT (c := (decide (v5003 < 0))) hb2 h
      try simp only [go_sem, Nat.reduceEqDiff, reduceIte, Nat.reduceAdd, Nat.reduceMul, Nat.reduceLeDiff, Nat.reduceLT]
      obtain rfl := Option.some.inj h
      simp only [go_sem, Nat.reduceEqDiff, reduceIte, Nat.reduceAdd, Nat.reduceMul, Nat.reduceLeDiff, Nat.reduceLT]
    · replace h := ifF (c := (decide (v5003 < 0))) hb2 h
      try simp only [go_sem, Nat.reduceEqDiff, reduceIte, Nat.reduceAdd, Nat.reduceMul, Nat.reduceLeDiff, Nat.reduceLT]
      refine seq_go ?_
      try simp only [go_sem, Nat.reduceEqDiff, reduceIte, Nat.reduceAdd, Nat.reduceMul, Nat.reduceLeDiff, Nat.reduceLT]
      obtain ⟨v8003, hv8003, h⟩ := bindE h
      refine call_i (l_szTerm_ok fuel _ _ _ hv8003) ?_
      try simp only [go_sem, Nat.reduceEqDiff, reduceIte, Nat.reduceAdd, Nat.reduceMul, Nat.reduceLeDiff, Nat.reduceLT]
      refine cond_i (fun hb3 => ?_) (fun hb3 => ?_)
      · replace h := ifT (c := (decide (v8003 < 0))) hb3 h
        try simp only [go_sem, Nat.reduceEqDiff, reduceIte, Nat.reduceAdd, Nat.reduceMul, Nat.reduceLeDiff, Nat.reduceLT]
        obtain rfl := Option.some.inj h
        simp only [go_sem, Nat.reduceEqDiff, reduceIte, Nat.reduceAdd, Nat.reduceMul, Nat.reduceLeDiff, Nat.reduceLT]
      · replace h := ifF (c := (decide (v8003 < 0))) hb3 h
        try simp only [go_sem, Nat.reduceEqDiff, reduceIte, Nat.reduceAdd, Nat.reduceMul, Nat.reduceLeDiff, Nat.reduceLT]
        refine seq_go ?_
        try simp only [go_sem, Nat.reduceEqDiff, reduceIte, Nat.reduceAdd, Nat.reduceMul, Nat.reduceLeDiff, Nat.reduceLT]
        obtain rfl := Option.some.inj h
        simp only [go_sem, Nat.reduceEqDiff, reduceIte, Nat.reduceAdd, Nat.reduceMul, Nat.reduceLeDiff, Nat.reduceLT]
theorem l_szDefS_l1_all (n : Nat) : (∀ (a0 : List Def) (p0_0 : Int) (p0_1 : Int) (r : Int), l_szDefS_l1 n a0 p0_0 p0_1 = some r → posF Try.prog Try.f159 [1, 1, 1, 0, 1, 0] (.int .i64 r) ⟨[(0, .ro (List.map Def.ds a0)), (1, .int .i64 p0_0), (5, .int .i64 p0_1)], [], []⟩) := by
  induction n with
  | zero => exact ((fun _ _ _ _ h => by rw [l_szDefS_l1] at h; cases h))
  | succ n ih =>
    have ih0 := ih
    · intro a0 p0_0 p0_1 r h
      rw [l_szDefS_l1] at h
      refine posF_of rfl rfl ?_
      try simp only [go_sem, Nat.reduceEqDiff, reduceIte, Nat.reduceAdd, Nat.reduceMul, Nat.reduceLeDiff, Nat.reduceLT]
      refine loop_i ?_
      try simp only [go_sem, Nat.reduceEqDiff, reduceIte, Nat.reduceAdd, Nat.reduceMul, Nat.reduceLeDiff, Nat.reduceLT]
      refine cond_i (fun hb2 => ?_) (fun hb2 => ?_)
      · replace h := ifT (c := (decide (p0_1 < ((List.length a0 : Nat) : Int)))) hb2 h
        try simp only [go_sem, Nat.reduceEqDiff, reduceIte, Nat.reduceAdd, Nat.reduceMul, Nat.reduceLeDiff, Nat.reduceLT]
        refine seq_go ?_
        try simp only [go_sem, Nat.reduceEqDiff, reduceIte, Nat.reduceAdd, Nat.reduceMul, Nat.reduceLeDiff, Nat.reduceLT]
        obtain ⟨v8002, hv8002, h⟩ := bindE h
        refine idx_m hv8002 (Def.ds_len _) ?_
        try simp only [go_sem, Nat.reduceEqDiff, reduceIte, Nat.reduceAdd, Nat.reduceMul, Nat.reduceLeDiff, Nat.reduceLT]
        obtain ⟨v8005, hv8005, h⟩ := bindE h
        refine call_i (l_szDef_ok _ _ _ hv8005) ?_
        try simp only [go_sem, Nat.reduceEqDiff, reduceIte, Nat.reduceAdd, Nat.reduceMul, Nat.reduceLeDiff, Nat.reduceLT]
        refine cond_i (fun hb3 => ?_) (fun hb3 => ?_)
        · replace h := ifT (c := (decide (v8005 < 0))) hb3 h
          try simp only [go_sem, Nat.reduceEqDiff, reduceIte, Nat.reduceAdd, Nat.reduceMul, Nat.reduceLeDiff, Nat.reduceLT]
          obtain rfl := Option.some.inj h
          simp only [go_sem, Nat.reduceEqDiff, reduceIte, Nat.reduceAdd, Nat.reduceMul, Nat.reduceLeDiff, Nat.reduceLT]
        · replace h := ifF (c := (decide (v8005 < 0))) hb3 h
          try simp only [go_sem, Nat.reduceEqDiff, reduceIte, Nat.reduceAdd, Nat.reduceMul, Nat.reduceLeDiff, Nat.reduceLT]
          refine seq_go ?_
          try simp only [go_sem, Nat.reduceEqDiff, reduceIte, Nat.reduceAdd, Nat.reduceMul, Nat.reduceLeDiff, Nat.reduceLT]
          have hj := posF_to rfl rfl (ih0 a0 v8005 (IntKind.i64.wrap (p0_1 + 1)) _ h)
          refine lp_to hj (.one ⟨_, .done _, [], [], ?_⟩)
          clear hj
          try simp only [go_sem, Nat.reduceEqDiff, reduceIte, Nat.reduceAdd, Nat.reduceMul, Nat.reduceLeDiff, Nat.reduceLT]
      · replace h := ifF (c := (decide (p0_1 < ((List.length a0 : Nat) : Int)))) hb2 h
        try simp only [go_sem, Nat.reduceEqDiff, reduceIte, Nat.reduceAdd, Nat.reduceMul, Nat.reduceLeDiff, Nat.reduceLT]
        refine seq_go ?_
        try simp only [go_sem, Nat.reduceEqDiff, reduceIte, Nat.reduceAdd, Nat.reduceMul, Nat.reduceLeDiff, Nat.reduceLT]
        obtain rfl := Option.some.inj h
        simp only [go_sem, Nat.reduceEqDiff, reduceIte, Nat.reduceAdd, Nat.reduceMul, Nat.reduceLeDiff, Nat.reduceLT]
theorem l_szDefS_l1_ok (n : Nat) : (∀ (a0 : List Def) (p0_0 : Int) (p0_1 : Int) (r : Int), l_szDefS_l1 n a0 p0_0 p0_1 = some r → posF Try.prog Try.f159 [1, 1, 1, 0, 1, 0] (.int .i64 r) ⟨[(0, .ro (List.map Def.ds a0)), (1, .int .i64 p0_0), (5, .int .i64 p0_1)], [], []⟩) := (l_szDefS_l1_all n)

theorem l_szDefS_ok (a0 : List Def) (a1 : Int) (r : Int) (h : l_szDefS a0 a1 = some r) : AC Try.prog 159 [.ro (List.map Def.ds a0), .int .i64 a1] (.int .i64 r) := by
  unfold l_szDefS at h
  refine ac_fn mixed Try.func159 rfl rfl rfl (by kernel_rfl) (by kernel_rfl) ?_
  try simp only [go_sem, Nat.reduceEqDiff, reduceIte, Nat.reduceAdd, Nat.reduceMul, Nat.reduceLeDiff, Nat.reduceLT]
  refine cond_i (fun hb1 => ?_) (fun hb1 => ?_)
  · replace h := ifT (c := (decide ((IntKind.i64.wrap (a1 - ((List.length a0 : Nat) : Int))) < 0))) hb1 h
    try simp only [go_sem, Nat.reduceEqDiff, reduceIte, Nat.reduceAdd, Nat.reduceMul, Nat.reduceLeDiff, Nat.reduceLT]
    obtain rfl := Option.some.inj h
    simp only [go_sem, Nat.reduceEqDiff, reduceIte, Nat.reduceAdd, Nat.reduceMul, Nat.reduceLeDiff, Nat.reduceLT]
  · replace h := ifF (c := (decide ((IntKind.i64.wrap (a1 - ((List.length a0 : Nat) : Int))) < 0))) hb1 h
    try simp only [go_sem, Nat.reduceEqDiff, reduceIte, Nat.reduceAdd, Nat.reduceMul, Nat.reduceLeDiff, Nat.reduceLT]
    refine seq_go ?_
    try simp only [go_sem, Nat.reduceEqDiff, reduceIte, Nat.reduceAdd, Nat.reduceMul, Nat.reduceLeDiff, Nat.reduceLT]
    have hj := posF_to rfl rfl (l_szDefS_l1_ok fuel a0 (IntKind.i64.wrap (a1 - ((List.length a0 : Nat) : Int))) 0 _ h)
    refine loop_to hj (.one ⟨_, .done _, [], [], ?_⟩)
    clear hj
    try simp only [go_sem, Nat.reduceEqDiff, reduceIte, Nat.reduceAdd, Nat.reduceMul, Nat.reduceLeDiff, Nat.reduceLT]
theorem l_szProgram_ok (a0 : TProgram) (a1 : Int) (r : Int) (h : l_szProgram a0 a1 = some r) : AC Try.prog 88 [.agg (TProgram.avs a0), .int .i64 a1] (.int .i64 r) := by
  unfold l_szProgram at h
  refine ac_fn mixed Try.func88 rfl rfl rfl (by kernel_rfl) (by kernel_rfl) ?_
  try simp only [go_sem, Nat.reduceEqDiff, reduceIte, Nat.reduceAdd, Nat.reduceMul, Nat.reduceLeDiff, Nat.reduceLT]
  obtain ⟨v2003, hv2003, h⟩ := bindE h
  refine call_i (l_szDataS_ok _ _ _ hv2003) ?_
  try simp only [go_sem, Nat.reduceEqDiff, reduceIte, Nat.reduceAdd, Nat.reduceMul, Nat.reduceLeDiff, Nat.reduceLT]
  refine cond_i (fun hb1 => ?_) (fun hb1 => ?_)
  · replace h := ifT (c := (decide (v2003 < 0))) hb1 h
    try simp only [go_sem, Nat.reduceEqDiff, reduceIte, Nat.reduceAdd, Nat.reduceMul, Nat.reduceLeDiff, Nat.reduceLT]
    obtain rfl := Option.some.inj h
    simp only [go_sem, Nat.reduceEqDiff, reduceIte, Nat.reduceAdd, Nat.reduceMul, Nat.reduceLeDiff, Nat.reduceLT]
  · replace h := ifF (c := (decide (v2003 < 0))) hb1 h
    try simp only [go_sem, Nat.reduceEqDiff, reduceIte, Nat.reduceAdd, Nat.reduceMul, Nat.reduceLeDiff, Nat.reduceLT]
    refine seq_go ?_
    try simp only [go_sem, Nat.reduceEqDiff, reduceIte, Nat.reduceAdd, Nat.reduceMul, Nat.reduceLeDiff, Nat.reduceLT]
    obtain ⟨v5003, hv5003, h⟩ := bindE h
    refine call_i (l_szDefS_ok _ _ _ hv5003) ?_
    try simp only [go_sem, Nat.reduceEqDiff, reduceIte, Nat.reduceAdd, Nat.reduceMul, Nat.reduceLeDiff, Nat.reduceLT]
    refine cond_i (fun hb2 => ?_) (fun hb2 => ?_)
    · replace h := ifT (c := (decide (v5003 < 0))) hb2 h
      try simp only [go_sem, Nat.reduceEqDiff, reduceIte, Nat.reduceAdd, Nat.reduceMul, Nat.reduceLeDiff, Nat.reduceLT]
      obtain rfl := Option.some.inj h
      simp only [go_sem, Nat.reduceEqDiff, reduceIte, Nat.reduceAdd, Nat.reduceMul, Nat.reduceLeDiff, Nat.reduceLT]
    · replace h := ifF (c := (decide (v5003 < 0))) hb2 h
      try simp only [go_sem, Nat.reduceEqDiff, reduceIte, Nat.reduceAdd, Nat.reduceMul, Nat.reduceLeDiff, Nat.reduceLT]
      refine seq_go ?_
      try simp only [go_sem, Nat.reduceEqDiff, reduceIte, Nat.reduceAdd, Nat.reduceMul, Nat.reduceLeDiff, Nat.reduceLT]
      obtain rfl := Option.some.inj h
      simp only [go_sem, Nat.reduceEqDiff, reduceIte, Nat.reduceAdd, Nat.reduceMul, Nat.reduceLeDiff, Nat.reduceLT]
theorem l_szDesk_ok (a0 : Desk) (a1 : Int) (r : Int) (h : l_szDesk a0 a1 = some r) : AC Try.prog 31 [.agg (Desk.avs a0), .int .i64 a1] (.int .i64 r) := by
  unfold l_szDesk at h
  refine ac_fn mixed Try.func31 rfl rfl rfl (by kernel_rfl) (by kernel_rfl) ?_
  try simp only [go_sem, Nat.reduceEqDiff, reduceIte, Nat.reduceAdd, Nat.reduceMul, Nat.reduceLeDiff, Nat.reduceLT]
  obtain ⟨v2003, hv2003, h⟩ := bindE h
  refine call_i (l_szProgram_ok _ _ _ hv2003) ?_
  try simp only [go_sem, Nat.reduceEqDiff, reduceIte, Nat.reduceAdd, Nat.reduceMul, Nat.reduceLeDiff, Nat.reduceLT]
  refine cond_i (fun hb1 => ?_) (fun hb1 => ?_)
  · replace h := ifT (c := (decide (v2003 < 0))) hb1 h
    try simp only [go_sem, Nat.reduceEqDiff, reduceIte, Nat.reduceAdd, Nat.reduceMul, Nat.reduceLeDiff, Nat.reduceLT]
    obtain rfl := Option.some.inj h
    simp only [go_sem, Nat.reduceEqDiff, reduceIte, Nat.reduceAdd, Nat.reduceMul, Nat.reduceLeDiff, Nat.reduceLT]
  · replace h := ifF (c := (decide (v2003 < 0))) hb1 h
    try simp only [go_sem, Nat.reduceEqDiff, reduceIte, Nat.reduceAdd, Nat.reduceMul, Nat.reduceLeDiff, Nat.reduceLT]
    refine seq_go ?_
    try simp only [go_sem, Nat.reduceEqDiff, reduceIte, Nat.reduceAdd, Nat.reduceMul, Nat.reduceLeDiff, Nat.reduceLT]
    obtain ⟨v5003, hv5003, h⟩ := bindE h
    refine call_i (l_szInt64S_ok _ _ _ hv5003) ?_
    try simp only [go_sem, Nat.reduceEqDiff, reduceIte, Nat.reduceAdd, Nat.reduceMul, Nat.reduceLeDiff, Nat.reduceLT]
    refine cond_i (fun hb2 => ?_) (fun hb2 => ?_)
    · replace h := ifT (c := (decide (v5003 < 0))) hb2 h
      try simp only [go_sem, Nat.reduceEqDiff, reduceIte, Nat.reduceAdd, Nat.reduceMul, Nat.reduceLeDiff, Nat.reduceLT]
      obtain rfl := Option.some.inj h
      simp only [go_sem, Nat.reduceEqDiff, reduceIte, Nat.reduceAdd, Nat.reduceMul, Nat.reduceLeDiff, Nat.reduceLT]
    · replace h := ifF (c := (decide (v5003 < 0))) hb2 h
      try simp only [go_sem, Nat.reduceEqDiff, reduceIte, Nat.reduceAdd, Nat.reduceMul, Nat.reduceLeDiff, Nat.reduceLT]
      refine seq_go ?_
      try simp only [go_sem, Nat.reduceEqDiff, reduceIte, Nat.reduceAdd, Nat.reduceMul, Nat.reduceLeDiff, Nat.reduceLT]
      obtain rfl := Option.some.inj h
      simp only [go_sem, Nat.reduceEqDiff, reduceIte, Nat.reduceAdd, Nat.reduceMul, Nat.reduceLeDiff, Nat.reduceLT]
theorem s_SameType_all (n : Nat) : (∀ (a0 : TType) (a1 : TType) (r : Bool), s_SameType n a0 a1 = some r → AC Try.prog 161 [.agg (TType.avs a0), .agg (TType.avs a1)] (.bool r)) ∧
    (∀ (a0 : TType) (a1 : TType) (p0_0 : Bool) (r : Bool), s_SameType_j1 n a0 a1 p0_0 = some r → posF Try.prog Try.f161 [1, 0, 1] (.bool r) ⟨[(2, .box 1000000500 0), (3, .box 1000000501 0), (26, .bool p0_0)], [], [(1000000500, some [.int .i64 a0.kind, .str a0.name, .ro (List.map TType.ds a0.kids)]), (1000000501, some [.int .i64 a1.kind, .str a1.name, .ro (List.map TType.ds a1.kids)])]⟩) ∧
    (∀ (a0 : TType) (a1 : TType) (p2_0 : Int) (r : Bool), s_SameType_l3 n a0 a1 p2_0 = some r → posF Try.prog Try.f161 [1, 1, 0, 1, 0] (.bool r) ⟨[(2, .box 1000002500 0), (3, .box 1000002501 0), (5, .int .i64 p2_0)], [], [(1000002500, some [.int .i64 a0.kind, .str a0.name, .ro (List.map TType.ds a0.kids)]), (1000002501, some [.int .i64 a1.kind, .str a1.name, .ro (List.map TType.ds a1.kids)])]⟩) := by
  induction n with
  | zero => exact ⟨(fun _ _ _ h => by rw [s_SameType] at h; cases h), (fun _ _ _ _ h => by rw [s_SameType_j1] at h; cases h), (fun _ _ _ _ h => by rw [s_SameType_l3] at h; cases h)⟩
  | succ n ih =>
    obtain ⟨ih0, ih1, ih2⟩ := ih
    refine ⟨?_, ?_, ?_⟩
    · intro a0 a1 r h
      rw [s_SameType] at h
      refine ac_fn mixed Try.func161 rfl rfl rfl (by kernel_rfl) (by kernel_rfl) ?_
      try simp only [go_sem, Nat.reduceEqDiff, reduceIte, Nat.reduceAdd, Nat.reduceMul, Nat.reduceLeDiff, Nat.reduceLT]
      refine cond_i (fun hb1 => ?_) (fun hb1 => ?_)
      · replace h := ifT (c := (!decide (a0.kind = a1.kind))) hb1 h
        try simp only [go_sem, Nat.reduceEqDiff, reduceIte, Nat.reduceAdd, Nat.reduceMul, Nat.reduceLeDiff, Nat.reduceLT]
        have hj := posF_to rfl rfl (ih1 a0 a1 true _ h)
        refine seq_to hj (.one ⟨_, .done _, [], [(1000000500, 1000), (1000000501, 1001)], ?_⟩)
        clear hj
        try simp only [go_sem, Nat.reduceEqDiff, reduceIte, Nat.reduceAdd, Nat.reduceMul, Nat.reduceLeDiff, Nat.reduceLT]
      · replace h := ifF (c := (!decide (a0.kind = a1.kind))) hb1 h
        try simp only [go_sem, Nat.reduceEqDiff, reduceIte, Nat.reduceAdd, Nat.reduceMul, Nat.reduceLeDiff, Nat.reduceLT]
        refine cond_i (fun hb2 => ?_) (fun hb2 => ?_)
        · replace h := ifT (c := (!sameStr a0.name a1.name)) hb2 h
          try simp only [go_sem, Nat.reduceEqDiff, reduceIte, Nat.reduceAdd, Nat.reduceMul, Nat.reduceLeDiff, Nat.reduceLT]
          have hj := posF_to rfl rfl (ih1 a0 a1 true _ h)
          refine seq_to hj (.one ⟨_, .done _, [], [(1000000500, 1000), (1000000501, 1001)], ?_⟩)
          clear hj
          try simp only [go_sem, Nat.reduceEqDiff, reduceIte, Nat.reduceAdd, Nat.reduceMul, Nat.reduceLeDiff, Nat.reduceLT]
        · replace h := ifF (c := (!sameStr a0.name a1.name)) hb2 h
          try simp only [go_sem, Nat.reduceEqDiff, reduceIte, Nat.reduceAdd, Nat.reduceMul, Nat.reduceLeDiff, Nat.reduceLT]
          have hj := posF_to rfl rfl (ih1 a0 a1 (!decide (((List.length a0.kids : Nat) : Int) = ((List.length a1.kids : Nat) : Int))) _ h)
          refine seq_to hj (.one ⟨_, .done _, [], [(1000000500, 1000), (1000000501, 1001)], ?_⟩)
          clear hj
          try simp only [go_sem, Nat.reduceEqDiff, reduceIte, Nat.reduceAdd, Nat.reduceMul, Nat.reduceLeDiff, Nat.reduceLT]
    · intro a0 a1 p0_0 r h
      rw [s_SameType_j1] at h
      refine posF_of rfl rfl ?_
      try simp only [go_sem, Nat.reduceEqDiff, reduceIte, Nat.reduceAdd, Nat.reduceMul, Nat.reduceLeDiff, Nat.reduceLT]
      refine cond_i (fun hb3 => ?_) (fun hb3 => ?_)
      · replace h := ifT (c := p0_0) hb3 h
        try simp only [go_sem, Nat.reduceEqDiff, reduceIte, Nat.reduceAdd, Nat.reduceMul, Nat.reduceLeDiff, Nat.reduceLT]
        obtain rfl := Option.some.inj h
        simp only [go_sem, Nat.reduceEqDiff, reduceIte, Nat.reduceAdd, Nat.reduceMul, Nat.reduceLeDiff, Nat.reduceLT]
      · replace h := ifF (c := p0_0) hb3 h
        try simp only [go_sem, Nat.reduceEqDiff, reduceIte, Nat.reduceAdd, Nat.reduceMul, Nat.reduceLeDiff, Nat.reduceLT]
        refine seq_go ?_
        try simp only [go_sem, Nat.reduceEqDiff, reduceIte, Nat.reduceAdd, Nat.reduceMul, Nat.reduceLeDiff, Nat.reduceLT]
        have hj := posF_to rfl rfl (ih2 a0 a1 0 _ h)
        refine loop_to hj (.one ⟨_, .done _, [], [(1000002500, 1000000500), (1000002501, 1000000501)], ?_⟩)
        clear hj
        try simp only [go_sem, Nat.reduceEqDiff, reduceIte, Nat.reduceAdd, Nat.reduceMul, Nat.reduceLeDiff, Nat.reduceLT]
    · intro a0 a1 p2_0 r h
      rw [s_SameType_l3] at h
      refine posF_of rfl rfl ?_
      try simp only [go_sem, Nat.reduceEqDiff, reduceIte, Nat.reduceAdd, Nat.reduceMul, Nat.reduceLeDiff, Nat.reduceLT]
      refine loop_i ?_
      try simp only [go_sem, Nat.reduceEqDiff, reduceIte, Nat.reduceAdd, Nat.reduceMul, Nat.reduceLeDiff, Nat.reduceLT]
      refine cond_i (fun hb4 => ?_) (fun hb4 => ?_)
      · replace h := ifT (c := (decide (p2_0 < ((List.length a0.kids : Nat) : Int)))) hb4 h
        try simp only [go_sem, Nat.reduceEqDiff, reduceIte, Nat.reduceAdd, Nat.reduceMul, Nat.reduceLeDiff, Nat.reduceLT]
        refine seq_go ?_
        try simp only [go_sem, Nat.reduceEqDiff, reduceIte, Nat.reduceAdd, Nat.reduceMul, Nat.reduceLeDiff, Nat.reduceLT]
        obtain ⟨v7003, hv7003, h⟩ := bindE h
        refine idx_m hv7003 (TType.ds_len _) ?_
        try simp only [go_sem, Nat.reduceEqDiff, reduceIte, Nat.reduceAdd, Nat.reduceMul, Nat.reduceLeDiff, Nat.reduceLT]
        obtain ⟨v7008, hv7008, h⟩ := bindE h
        refine idx_m hv7008 (TType.ds_len _) ?_
        try simp only [go_sem, Nat.reduceEqDiff, reduceIte, Nat.reduceAdd, Nat.reduceMul, Nat.reduceLeDiff, Nat.reduceLT]
        obtain ⟨v7010, hv7010, h⟩ := bindE h
        refine call_i (ih0 _ _ _ hv7010) ?_
        try simp only [go_sem, Nat.reduceEqDiff, reduceIte, Nat.reduceAdd, Nat.reduceMul, Nat.reduceLeDiff, Nat.reduceLT]
        refine cond_i (fun hb5 => ?_) (fun hb5 => ?_)
        · replace h := ifT (c := (!v7010)) hb5 h
          try simp only [go_sem, Nat.reduceEqDiff, reduceIte, Nat.reduceAdd, Nat.reduceMul, Nat.reduceLeDiff, Nat.reduceLT]
          obtain rfl := Option.some.inj h
          simp only [go_sem, Nat.reduceEqDiff, reduceIte, Nat.reduceAdd, Nat.reduceMul, Nat.reduceLeDiff, Nat.reduceLT]
        · replace h := ifF (c := (!v7010)) hb5 h
          try simp only [go_sem, Nat.reduceEqDiff, reduceIte, Nat.reduceAdd, Nat.reduceMul, Nat.reduceLeDiff, Nat.reduceLT]
          refine seq_go ?_
          try simp only [go_sem, Nat.reduceEqDiff, reduceIte, Nat.reduceAdd, Nat.reduceMul, Nat.reduceLeDiff, Nat.reduceLT]
          have hj := posF_to rfl rfl (ih2 a0 a1 (IntKind.i64.wrap (p2_0 + 1)) _ h)
          refine lp_to hj (.one ⟨_, .done _, [], [(1000002500, 1000002500), (1000002501, 1000002501)], ?_⟩)
          clear hj
          try simp only [go_sem, Nat.reduceEqDiff, reduceIte, Nat.reduceAdd, Nat.reduceMul, Nat.reduceLeDiff, Nat.reduceLT]
      · replace h := ifF (c := (decide (p2_0 < ((List.length a0.kids : Nat) : Int)))) hb4 h
        try simp only [go_sem, Nat.reduceEqDiff, reduceIte, Nat.reduceAdd, Nat.reduceMul, Nat.reduceLeDiff, Nat.reduceLT]
        refine seq_go ?_
        try simp only [go_sem, Nat.reduceEqDiff, reduceIte, Nat.reduceAdd, Nat.reduceMul, Nat.reduceLeDiff, Nat.reduceLT]
        obtain rfl := Option.some.inj h
        simp only [go_sem, Nat.reduceEqDiff, reduceIte, Nat.reduceAdd, Nat.reduceMul, Nat.reduceLeDiff, Nat.reduceLT]
theorem s_SameType_ok (n : Nat) : (∀ (a0 : TType) (a1 : TType) (r : Bool), s_SameType n a0 a1 = some r → AC Try.prog 161 [.agg (TType.avs a0), .agg (TType.avs a1)] (.bool r)) := (s_SameType_all n).1
theorem s_SameType_j1_ok (n : Nat) : (∀ (a0 : TType) (a1 : TType) (p0_0 : Bool) (r : Bool), s_SameType_j1 n a0 a1 p0_0 = some r → posF Try.prog Try.f161 [1, 0, 1] (.bool r) ⟨[(2, .box 1000000500 0), (3, .box 1000000501 0), (26, .bool p0_0)], [], [(1000000500, some [.int .i64 a0.kind, .str a0.name, .ro (List.map TType.ds a0.kids)]), (1000000501, some [.int .i64 a1.kind, .str a1.name, .ro (List.map TType.ds a1.kids)])]⟩) := (s_SameType_all n).2.1
theorem s_SameType_l3_ok (n : Nat) : (∀ (a0 : TType) (a1 : TType) (p2_0 : Int) (r : Bool), s_SameType_l3 n a0 a1 p2_0 = some r → posF Try.prog Try.f161 [1, 1, 0, 1, 0] (.bool r) ⟨[(2, .box 1000002500 0), (3, .box 1000002501 0), (5, .int .i64 p2_0)], [], [(1000002500, some [.int .i64 a0.kind, .str a0.name, .ro (List.map TType.ds a0.kids)]), (1000002501, some [.int .i64 a1.kind, .str a1.name, .ro (List.map TType.ds a1.kids)])]⟩) := (s_SameType_all n).2.2

theorem s_l03SameTypes_l1_all (n : Nat) : (∀ (a0 : List TType) (a1 : List TType) (p0_0 : Int) (r : Bool), s_l03SameTypes_l1 n a0 a1 p0_0 = some r → posF Try.prog Try.f233 [1, 1, 0, 1, 0] (.bool r) ⟨[(0, .ro (List.map TType.ds a0)), (1, .ro (List.map TType.ds a1)), (5, .int .i64 p0_0)], [], []⟩) := by
  induction n with
  | zero => exact ((fun _ _ _ _ h => by rw [s_l03SameTypes_l1] at h; cases h))
  | succ n ih =>
    have ih0 := ih
    · intro a0 a1 p0_0 r h
      rw [s_l03SameTypes_l1] at h
      refine posF_of rfl rfl ?_
      try simp only [go_sem, Nat.reduceEqDiff, reduceIte, Nat.reduceAdd, Nat.reduceMul, Nat.reduceLeDiff, Nat.reduceLT]
      refine loop_i ?_
      try simp only [go_sem, Nat.reduceEqDiff, reduceIte, Nat.reduceAdd, Nat.reduceMul, Nat.reduceLeDiff, Nat.reduceLT]
      refine cond_i (fun hb2 => ?_) (fun hb2 => ?_)
      · replace h := ifT (c := (decide (p0_0 < ((List.length a0 : Nat) : Int)))) hb2 h
        try simp only [go_sem, Nat.reduceEqDiff, reduceIte, Nat.reduceAdd, Nat.reduceMul, Nat.reduceLeDiff, Nat.reduceLT]
        refine seq_go ?_
        try simp only [go_sem, Nat.reduceEqDiff, reduceIte, Nat.reduceAdd, Nat.reduceMul, Nat.reduceLeDiff, Nat.reduceLT]
        obtain ⟨v7002, hv7002, h⟩ := bindE h
        refine idx_m hv7002 (TType.ds_len _) ?_
        try simp only [go_sem, Nat.reduceEqDiff, reduceIte, Nat.reduceAdd, Nat.reduceMul, Nat.reduceLeDiff, Nat.reduceLT]
        obtain ⟨v7006, hv7006, h⟩ := bindE h
        refine idx_m hv7006 (TType.ds_len _) ?_
        try simp only [go_sem, Nat.reduceEqDiff, reduceIte, Nat.reduceAdd, Nat.reduceMul, Nat.reduceLeDiff, Nat.reduceLT]
        obtain ⟨v7008, hv7008, h⟩ := bindE h
        refine call_i (s_SameType_ok fuel _ _ _ hv7008) ?_
        try simp only [go_sem, Nat.reduceEqDiff, reduceIte, Nat.reduceAdd, Nat.reduceMul, Nat.reduceLeDiff, Nat.reduceLT]
        refine cond_i (fun hb3 => ?_) (fun hb3 => ?_)
        · replace h := ifT (c := (!v7008)) hb3 h
          try simp only [go_sem, Nat.reduceEqDiff, reduceIte, Nat.reduceAdd, Nat.reduceMul, Nat.reduceLeDiff, Nat.reduceLT]
          obtain rfl := Option.some.inj h
          simp only [go_sem, Nat.reduceEqDiff, reduceIte, Nat.reduceAdd, Nat.reduceMul, Nat.reduceLeDiff, Nat.reduceLT]
        · replace h := ifF (c := (!v7008)) hb3 h
          try simp only [go_sem, Nat.reduceEqDiff, reduceIte, Nat.reduceAdd, Nat.reduceMul, Nat.reduceLeDiff, Nat.reduceLT]
          refine seq_go ?_
          try simp only [go_sem, Nat.reduceEqDiff, reduceIte, Nat.reduceAdd, Nat.reduceMul, Nat.reduceLeDiff, Nat.reduceLT]
          have hj := posF_to rfl rfl (ih0 a0 a1 (IntKind.i64.wrap (p0_0 + 1)) _ h)
          refine lp_to hj (.one ⟨_, .done _, [], [], ?_⟩)
          clear hj
          try simp only [go_sem, Nat.reduceEqDiff, reduceIte, Nat.reduceAdd, Nat.reduceMul, Nat.reduceLeDiff, Nat.reduceLT]
      · replace h := ifF (c := (decide (p0_0 < ((List.length a0 : Nat) : Int)))) hb2 h
        try simp only [go_sem, Nat.reduceEqDiff, reduceIte, Nat.reduceAdd, Nat.reduceMul, Nat.reduceLeDiff, Nat.reduceLT]
        refine seq_go ?_
        try simp only [go_sem, Nat.reduceEqDiff, reduceIte, Nat.reduceAdd, Nat.reduceMul, Nat.reduceLeDiff, Nat.reduceLT]
        obtain rfl := Option.some.inj h
        simp only [go_sem, Nat.reduceEqDiff, reduceIte, Nat.reduceAdd, Nat.reduceMul, Nat.reduceLeDiff, Nat.reduceLT]
theorem s_l03SameTypes_l1_ok (n : Nat) : (∀ (a0 : List TType) (a1 : List TType) (p0_0 : Int) (r : Bool), s_l03SameTypes_l1 n a0 a1 p0_0 = some r → posF Try.prog Try.f233 [1, 1, 0, 1, 0] (.bool r) ⟨[(0, .ro (List.map TType.ds a0)), (1, .ro (List.map TType.ds a1)), (5, .int .i64 p0_0)], [], []⟩) := (s_l03SameTypes_l1_all n)

theorem s_l03SameTypes_ok (a0 : List TType) (a1 : List TType) (r : Bool) (h : s_l03SameTypes a0 a1 = some r) : AC Try.prog 233 [.ro (List.map TType.ds a0), .ro (List.map TType.ds a1)] (.bool r) := by
  unfold s_l03SameTypes at h
  refine ac_fn mixed Try.func233 rfl rfl rfl (by kernel_rfl) (by kernel_rfl) ?_
  try simp only [go_sem, Nat.reduceEqDiff, reduceIte, Nat.reduceAdd, Nat.reduceMul, Nat.reduceLeDiff, Nat.reduceLT]
  refine cond_i (fun hb1 => ?_) (fun hb1 => ?_)
  · replace h := ifT (c := (!decide (((List.length a0 : Nat) : Int) = ((List.length a1 : Nat) : Int)))) hb1 h
    try simp only [go_sem, Nat.reduceEqDiff, reduceIte, Nat.reduceAdd, Nat.reduceMul, Nat.reduceLeDiff, Nat.reduceLT]
    obtain rfl := Option.some.inj h
    simp only [go_sem, Nat.reduceEqDiff, reduceIte, Nat.reduceAdd, Nat.reduceMul, Nat.reduceLeDiff, Nat.reduceLT]
  · replace h := ifF (c := (!decide (((List.length a0 : Nat) : Int) = ((List.length a1 : Nat) : Int)))) hb1 h
    try simp only [go_sem, Nat.reduceEqDiff, reduceIte, Nat.reduceAdd, Nat.reduceMul, Nat.reduceLeDiff, Nat.reduceLT]
    refine seq_go ?_
    try simp only [go_sem, Nat.reduceEqDiff, reduceIte, Nat.reduceAdd, Nat.reduceMul, Nat.reduceLeDiff, Nat.reduceLT]
    have hj := posF_to rfl rfl (s_l03SameTypes_l1_ok fuel a0 a1 0 _ h)
    refine loop_to hj (.one ⟨_, .done _, [], [], ?_⟩)
    clear hj
    try simp only [go_sem, Nat.reduceEqDiff, reduceIte, Nat.reduceAdd, Nat.reduceMul, Nat.reduceLeDiff, Nat.reduceLT]
theorem s_l03SameData_l8_all (n : Nat) : (∀ (a0 : Data) (a1 : Data) (p3_0 : Int) (r : Bool), s_l03SameData_l8 n a0 a1 p3_0 = some r → posF Try.prog Try.f160 [1, 1, 0, 1, 0] (.bool r) ⟨[(2, .box 1000003500 0), (3, .box 1000003501 0), (5, .int .i64 p3_0)], [], [(1000003500, some [.str a0.name, .ro (List.map Constructor.ds a0.cons)]), (1000003501, some [.str a1.name, .ro (List.map Constructor.ds a1.cons)])]⟩) ∧
    (∀ (a0 : Data) (a1 : Data) (p3_0 : Int) (p4_0 : Bool) (r : Bool), s_l03SameData_j9 n a0 a1 p3_0 p4_0 = some r → posF Try.prog Try.f160 [1, 1, 0, 1, 0, 0, 1, 0, 0, 1] (.bool r) ⟨[(2, .box 1000004500 0), (3, .box 1000004501 0), (5, .int .i64 p3_0), (55, .bool p4_0)], [], [(1000004500, some [.str a0.name, .ro (List.map Constructor.ds a0.cons)]), (1000004501, some [.str a1.name, .ro (List.map Constructor.ds a1.cons)])]⟩) := by
  induction n with
  | zero => exact ⟨(fun _ _ _ _ h => by rw [s_l03SameData_l8] at h; cases h), (fun _ _ _ _ _ h => by rw [s_l03SameData_j9] at h; cases h)⟩
  | succ n ih =>
    obtain ⟨ih0, ih1⟩ := ih
    refine ⟨?_, ?_⟩
    · intro a0 a1 p3_0 r h
      rw [s_l03SameData_l8] at h
      refine posF_of rfl rfl ?_
      try simp only [go_sem, Nat.reduceEqDiff, reduceIte, Nat.reduceAdd, Nat.reduceMul, Nat.reduceLeDiff, Nat.reduceLT]
      refine loop_i ?_
      try simp only [go_sem, Nat.reduceEqDiff, reduceIte, Nat.reduceAdd, Nat.reduceMul, Nat.reduceLeDiff, Nat.reduceLT]
      refine cond_i (fun hb3 => ?_) (fun hb3 => ?_)
      · replace h := ifT (c := (decide (p3_0 < ((List.length a0.cons : Nat) : Int)))) hb3 h
        try simp only [go_sem, Nat.reduceEqDiff, reduceIte, Nat.reduceAdd, Nat.reduceMul, Nat.reduceLeDiff, Nat.reduceLT]
        refine seq_go ?_
        try simp only [go_sem, Nat.reduceEqDiff, reduceIte, Nat.reduceAdd, Nat.reduceMul, Nat.reduceLeDiff, Nat.reduceLT]
        obtain ⟨v7003, hv7003, h⟩ := bindE h
        refine idx_m hv7003 (Constructor.ds_len _) ?_
        try simp only [go_sem, Nat.reduceEqDiff, reduceIte, Nat.reduceAdd, Nat.reduceMul, Nat.reduceLeDiff, Nat.reduceLT]
        obtain ⟨v7009, hv7009, h⟩ := bindE h
        refine idx_m hv7009 (Constructor.ds_len _) ?_
        try simp only [go_sem, Nat.reduceEqDiff, reduceIte, Nat.reduceAdd, Nat.reduceMul, Nat.reduceLeDiff, Nat.reduceLT]
        refine cond_i (fun hb4 => ?_) (fun hb4 => ?_)
        · replace h := ifT (c := (!sameStr v7003.name v7009.name)) hb4 h
          try simp only [go_sem, Nat.reduceEqDiff, reduceIte, Nat.reduceAdd, Nat.reduceMul, Nat.reduceLeDiff, Nat.reduceLT]
          have hj := posF_to rfl rfl (ih1 a0 a1 p3_0 true _ h)
          refine seq_to hj (.one ⟨_, .done _, [], [(1000004500, 1000003500), (1000004501, 1000003501)], ?_⟩)
          clear hj
          try simp only [go_sem, Nat.reduceEqDiff, reduceIte, Nat.reduceAdd, Nat.reduceMul, Nat.reduceLeDiff, Nat.reduceLT]
        · replace h := ifF (c := (!sameStr v7003.name v7009.name)) hb4 h
          try simp only [go_sem, Nat.reduceEqDiff, reduceIte, Nat.reduceAdd, Nat.reduceMul, Nat.reduceLeDiff, Nat.reduceLT]
          obtain ⟨v7017, hv7017, h⟩ := bindE h
          refine idx_m hv7017 (Constructor.ds_len _) ?_
          try simp only [go_sem, Nat.reduceEqDiff, reduceIte, Nat.reduceAdd, Nat.reduceMul, Nat.reduceLeDiff, Nat.reduceLT]
          obtain ⟨v7023, hv7023, h⟩ := bindE h
          refine idx_m hv7023 (Constructor.ds_len _) ?_
          try simp only [go_sem, Nat.reduceEqDiff, reduceIte, Nat.reduceAdd, Nat.reduceMul, Nat.reduceLeDiff, Nat.reduceLT]
          obtain ⟨v7026, hv7026, h⟩ := bindE h
          refine call_i (s_l03SameTypes_ok _ _ _ hv7026) ?_
          try simp only [go_sem, Nat.reduceEqDiff, reduceIte, Nat.reduceAdd, Nat.reduceMul, Nat.reduceLeDiff, Nat.reduceLT]
          have hj := posF_to rfl rfl (ih1 a0 a1 p3_0 (!v7026) _ h)
          refine seq_to hj (.one ⟨_, .done _, [], [(1000004500, 1000003500), (1000004501, 1000003501)], ?_⟩)
          clear hj
          try simp only [go_sem, Nat.reduceEqDiff, reduceIte, Nat.reduceAdd, Nat.reduceMul, Nat.reduceLeDiff, Nat.reduceLT]
      · replace h := ifF (c := (decide (p3_0 < ((List.length a0.cons : Nat) : Int)))) hb3 h
        try simp only [go_sem, Nat.reduceEqDiff, reduceIte, Nat.reduceAdd, Nat.reduceMul, Nat.reduceLeDiff, Nat.reduceLT]
        refine seq_go ?_
        try simp only [go_sem, Nat.reduceEqDiff, reduceIte, Nat.reduceAdd, Nat.reduceMul, Nat.reduceLeDiff, Nat.reduceLT]
        obtain rfl := Option.some.inj h
        simp only [go_sem, Nat.reduceEqDiff, reduceIte, Nat.reduceAdd, Nat.reduceMul, Nat.reduceLeDiff, Nat.reduceLT]
    · intro a0 a1 p3_0 p4_0 r h
      rw [s_l03SameData_j9] at h
      refine posF_of rfl rfl ?_
      try simp only [go_sem, Nat.reduceEqDiff, reduceIte, Nat.reduceAdd, Nat.reduceMul, Nat.reduceLeDiff, Nat.reduceLT]
      refine cond_i (fun hb5 => ?_) (fun hb5 => ?_)
      · replace h := ifT (c := p4_0) hb5 h
        try simp only [go_sem, Nat.reduceEqDiff, reduceIte, Nat.reduceAdd, Nat.reduceMul, Nat.reduceLeDiff, Nat.reduceLT]
        obtain rfl := Option.some.inj h
        simp only [go_sem, Nat.reduceEqDiff, reduceIte, Nat.reduceAdd, Nat.reduceMul, Nat.reduceLeDiff, Nat.reduceLT]
      · replace h := ifF (c := p4_0) hb5 h
        try simp only [go_sem, Nat.reduceEqDiff, reduceIte, Nat.reduceAdd, Nat.reduceMul, Nat.reduceLeDiff, Nat.reduceLT]
        refine seq_go ?_
        try simp only [go_sem, Nat.reduceEqDiff, reduceIte, Nat.reduceAdd, Nat.reduceMul, Nat.reduceLeDiff, Nat.reduceLT]
        have hj := posF_to rfl rfl (ih0 a0 a1 (IntKind.i64.wrap (p3_0 + 1)) _ h)
        refine lp_to hj (.one ⟨_, .done _, [], [(1000003500, 1000004500), (1000003501, 1000004501)], ?_⟩)
        clear hj
        try simp only [go_sem, Nat.reduceEqDiff, reduceIte, Nat.reduceAdd, Nat.reduceMul, Nat.reduceLeDiff, Nat.reduceLT]
theorem s_l03SameData_l8_ok (n : Nat) : (∀ (a0 : Data) (a1 : Data) (p3_0 : Int) (r : Bool), s_l03SameData_l8 n a0 a1 p3_0 = some r → posF Try.prog Try.f160 [1, 1, 0, 1, 0] (.bool r) ⟨[(2, .box 1000003500 0), (3, .box 1000003501 0), (5, .int .i64 p3_0)], [], [(1000003500, some [.str a0.name, .ro (List.map Constructor.ds a0.cons)]), (1000003501, some [.str a1.name, .ro (List.map Constructor.ds a1.cons)])]⟩) := (s_l03SameData_l8_all n).1
theorem s_l03SameData_j9_ok (n : Nat) : (∀ (a0 : Data) (a1 : Data) (p3_0 : Int) (p4_0 : Bool) (r : Bool), s_l03SameData_j9 n a0 a1 p3_0 p4_0 = some r → posF Try.prog Try.f160 [1, 1, 0, 1, 0, 0, 1, 0, 0, 1] (.bool r) ⟨[(2, .box 1000004500 0), (3, .box 1000004501 0), (5, .int .i64 p3_0), (55, .bool p4_0)], [], [(1000004500, some [.str a0.name, .ro (List.map Constructor.ds a0.cons)]), (1000004501, some [.str a1.name, .ro (List.map Constructor.ds a1.cons)])]⟩) := (s_l03SameData_l8_all n).2

theorem s_l03SameData_j1_ok (a0 : Data) (a1 : Data) (p0_0 : Bool) (r : Bool) (h : s_l03SameData_j1 a0 a1 p0_0 = some r) : posF Try.prog Try.f160 [1, 0, 1] (.bool r) ⟨[(2, .box 1000000500 0), (3, .box 1000000501 0), (19, .bool p0_0)], [], [(1000000500, some [.str a0.name, .ro (List.map Constructor.ds a0.cons)]), (1000000501, some [.str a1.name, .ro (List.map Constructor.ds a1.cons)])]⟩ := by
  unfold s_l03SameData_j1 at h
  refine posF_of rfl rfl ?_
  try simp only [go_sem, Nat.reduceEqDiff, reduceIte, Nat.reduceAdd, Nat.reduceMul, Nat.reduceLeDiff, Nat.reduceLT]
  refine cond_i (fun hb2 => ?_) (fun hb2 => ?_)
  · replace h := ifT (c := p0_0) hb2 h
    try simp only [go_sem, Nat.reduceEqDiff, reduceIte, Nat.reduceAdd, Nat.reduceMul, Nat.reduceLeDiff, Nat.reduceLT]
    obtain rfl := Option.some.inj h
    simp only [go_sem, Nat.reduceEqDiff, reduceIte, Nat.reduceAdd, Nat.reduceMul, Nat.reduceLeDiff, Nat.reduceLT]
  · replace h := ifF (c := p0_0) hb2 h
    try simp only [go_sem, Nat.reduceEqDiff, reduceIte, Nat.reduceAdd, Nat.reduceMul, Nat.reduceLeDiff, Nat.reduceLT]
    refine seq_go ?_
    try simp only [go_sem, Nat.reduceEqDiff, reduceIte, Nat.reduceAdd, Nat.reduceMul, Nat.reduceLeDiff, Nat.reduceLT]
    have hj := posF_to rfl rfl (s_l03SameData_l8_ok fuel a0 a1 0 _ h)
    refine loop_to hj (.one ⟨_, .done _, [], [(1000003500, 1000000500), (1000003501, 1000000501)], ?_⟩)
    clear hj
    try simp only [go_sem, Nat.reduceEqDiff, reduceIte, Nat.reduceAdd, Nat.reduceMul, Nat.reduceLeDiff, Nat.reduceLT]
theorem s_l03SameData_ok (a0 : Data) (a1 : Data) (r : Bool) (h : s_l03SameData a0 a1 = some r) : AC Try.prog 160 [.agg (Data.avs a0), .agg (Data.avs a1)] (.bool r) := by
  unfold s_l03SameData at h
  refine ac_fn mixed Try.func160 rfl rfl rfl (by kernel_rfl) (by kernel_rfl) ?_
  try simp only [go_sem, Nat.reduceEqDiff, reduceIte, Nat.reduceAdd, Nat.reduceMul, Nat.reduceLeDiff, Nat.reduceLT]
  refine cond_i (fun hb1 => ?_) (fun hb1 => ?_)
  · replace h := ifT (c := (!sameStr a0.name a1.name)) hb1 h
    try simp only [go_sem, Nat.reduceEqDiff, reduceIte, Nat.reduceAdd, Nat.reduceMul, Nat.reduceLeDiff, Nat.reduceLT]
    have hj := posF_to rfl rfl (s_l03SameData_j1_ok a0 a1 true _ h)
    refine seq_to hj (.one ⟨_, .done _, [], [(1000000500, 1000), (1000000501, 1001)], ?_⟩)
    clear hj
    try simp only [go_sem, Nat.reduceEqDiff, reduceIte, Nat.reduceAdd, Nat.reduceMul, Nat.reduceLeDiff, Nat.reduceLT]
  · replace h := ifF (c := (!sameStr a0.name a1.name)) hb1 h
    try simp only [go_sem, Nat.reduceEqDiff, reduceIte, Nat.reduceAdd, Nat.reduceMul, Nat.reduceLeDiff, Nat.reduceLT]
    have hj := posF_to rfl rfl (s_l03SameData_j1_ok a0 a1 (!decide (((List.length a0.cons : Nat) : Int) = ((List.length a1.cons : Nat) : Int))) _ h)
    refine seq_to hj (.one ⟨_, .done _, [], [(1000000500, 1000), (1000000501, 1001)], ?_⟩)
    clear hj
    try simp only [go_sem, Nat.reduceEqDiff, reduceIte, Nat.reduceAdd, Nat.reduceMul, Nat.reduceLeDiff, Nat.reduceLT]
theorem s_l03SameNames_l1_all (n : Nat) : (∀ (a0 : List ByteArray) (a1 : List ByteArray) (p0_0 : Int) (r : Bool), s_l03SameNames_l1 n a0 a1 p0_0 = some r → posF Try.prog Try.f234 [1, 1, 0, 1, 0] (.bool r) ⟨[(0, .ro (List.map strD a0)), (1, .ro (List.map strD a1)), (5, .int .i64 p0_0)], [], []⟩) := by
  induction n with
  | zero => exact ((fun _ _ _ _ h => by rw [s_l03SameNames_l1] at h; cases h))
  | succ n ih =>
    have ih0 := ih
    · intro a0 a1 p0_0 r h
      rw [s_l03SameNames_l1] at h
      refine posF_of rfl rfl ?_
      try simp only [go_sem, Nat.reduceEqDiff, reduceIte, Nat.reduceAdd, Nat.reduceMul, Nat.reduceLeDiff, Nat.reduceLT]
      refine loop_i ?_
      try simp only [go_sem, Nat.reduceEqDiff, reduceIte, Nat.reduceAdd, Nat.reduceMul, Nat.reduceLeDiff, Nat.reduceLT]
      refine cond_i (fun hb2 => ?_) (fun hb2 => ?_)
      · replace h := ifT (c := (decide (p0_0 < ((List.length a0 : Nat) : Int)))) hb2 h
        try simp only [go_sem, Nat.reduceEqDiff, reduceIte, Nat.reduceAdd, Nat.reduceMul, Nat.reduceLeDiff, Nat.reduceLT]
        refine seq_go ?_
        try simp only [go_sem, Nat.reduceEqDiff, reduceIte, Nat.reduceAdd, Nat.reduceMul, Nat.reduceLeDiff, Nat.reduceLT]
        obtain ⟨v7002, hv7002, h⟩ := bindE h
        refine idx_m hv7002 rfl ?_
        try simp only [go_sem, Nat.reduceEqDiff, reduceIte, Nat.reduceAdd, Nat.reduceMul, Nat.reduceLeDiff, Nat.reduceLT]
        obtain ⟨v7006, hv7006, h⟩ := bindE h
        refine idx_m hv7006 rfl ?_
        try simp only [go_sem, Nat.reduceEqDiff, reduceIte, Nat.reduceAdd, Nat.reduceMul, Nat.reduceLeDiff, Nat.reduceLT]
        refine cond_i (fun hb3 => ?_) (fun hb3 => ?_)
        · replace h := ifT (c := (!sameStr v7002 v7006)) hb3 h
          try simp only [go_sem, Nat.reduceEqDiff, reduceIte, Nat.reduceAdd, Nat.reduceMul, Nat.reduceLeDiff, Nat.reduceLT]
          obtain rfl := Option.some.inj h
          simp only [go_sem, Nat.reduceEqDiff, reduceIte, Nat.reduceAdd, Nat.reduceMul, Nat.reduceLeDiff, Nat.reduceLT]
        · replace h := ifF (c := (!sameStr v7002 v7006)) hb3 h
          try simp only [go_sem, Nat.reduceEqDiff, reduceIte, Nat.reduceAdd, Nat.reduceMul, Nat.reduceLeDiff, Nat.reduceLT]
          refine seq_go ?_
          try simp only [go_sem, Nat.reduceEqDiff, reduceIte, Nat.reduceAdd, Nat.reduceMul, Nat.reduceLeDiff, Nat.reduceLT]
          have hj := posF_to rfl rfl (ih0 a0 a1 (IntKind.i64.wrap (p0_0 + 1)) _ h)
          refine lp_to hj (.one ⟨_, .done _, [], [], ?_⟩)
          clear hj
          try simp only [go_sem, Nat.reduceEqDiff, reduceIte, Nat.reduceAdd, Nat.reduceMul, Nat.reduceLeDiff, Nat.reduceLT]
      · replace h := ifF (c := (decide (p0_0 < ((List.length a0 : Nat) : Int)))) hb2 h
        try simp only [go_sem, Nat.reduceEqDiff, reduceIte, Nat.reduceAdd, Nat.reduceMul, Nat.reduceLeDiff, Nat.reduceLT]
        refine seq_go ?_
        try simp only [go_sem, Nat.reduceEqDiff, reduceIte, Nat.reduceAdd, Nat.reduceMul, Nat.reduceLeDiff, Nat.reduceLT]
        obtain rfl := Option.some.inj h
        simp only [go_sem, Nat.reduceEqDiff, reduceIte, Nat.reduceAdd, Nat.reduceMul, Nat.reduceLeDiff, Nat.reduceLT]
theorem s_l03SameNames_l1_ok (n : Nat) : (∀ (a0 : List ByteArray) (a1 : List ByteArray) (p0_0 : Int) (r : Bool), s_l03SameNames_l1 n a0 a1 p0_0 = some r → posF Try.prog Try.f234 [1, 1, 0, 1, 0] (.bool r) ⟨[(0, .ro (List.map strD a0)), (1, .ro (List.map strD a1)), (5, .int .i64 p0_0)], [], []⟩) := (s_l03SameNames_l1_all n)

theorem s_l03SameNames_ok (a0 : List ByteArray) (a1 : List ByteArray) (r : Bool) (h : s_l03SameNames a0 a1 = some r) : AC Try.prog 234 [.ro (List.map strD a0), .ro (List.map strD a1)] (.bool r) := by
  unfold s_l03SameNames at h
  refine ac_fn mixed Try.func234 rfl rfl rfl (by kernel_rfl) (by kernel_rfl) ?_
  try simp only [go_sem, Nat.reduceEqDiff, reduceIte, Nat.reduceAdd, Nat.reduceMul, Nat.reduceLeDiff, Nat.reduceLT]
  refine cond_i (fun hb1 => ?_) (fun hb1 => ?_)
  · replace h := ifT (c := (!decide (((List.length a0 : Nat) : Int) = ((List.length a1 : Nat) : Int)))) hb1 h
    try simp only [go_sem, Nat.reduceEqDiff, reduceIte, Nat.reduceAdd, Nat.reduceMul, Nat.reduceLeDiff, Nat.reduceLT]
    obtain rfl := Option.some.inj h
    simp only [go_sem, Nat.reduceEqDiff, reduceIte, Nat.reduceAdd, Nat.reduceMul, Nat.reduceLeDiff, Nat.reduceLT]
  · replace h := ifF (c := (!decide (((List.length a0 : Nat) : Int) = ((List.length a1 : Nat) : Int)))) hb1 h
    try simp only [go_sem, Nat.reduceEqDiff, reduceIte, Nat.reduceAdd, Nat.reduceMul, Nat.reduceLeDiff, Nat.reduceLT]
    refine seq_go ?_
    try simp only [go_sem, Nat.reduceEqDiff, reduceIte, Nat.reduceAdd, Nat.reduceMul, Nat.reduceLeDiff, Nat.reduceLT]
    have hj := posF_to rfl rfl (s_l03SameNames_l1_ok fuel a0 a1 0 _ h)
    refine loop_to hj (.one ⟨_, .done _, [], [], ?_⟩)
    clear hj
    try simp only [go_sem, Nat.reduceEqDiff, reduceIte, Nat.reduceAdd, Nat.reduceMul, Nat.reduceLeDiff, Nat.reduceLT]
theorem s_SameTerm_all (n : Nat) : (∀ (a0 : Term) (a1 : Term) (r : Bool), s_SameTerm n a0 a1 = some r → AC Try.prog 162 [.agg (Term.avs a0), .agg (Term.avs a1)] (.bool r)) ∧
    (∀ (a0 : Term) (a1 : Term) (p0_0 : Bool) (r : Bool), s_SameTerm_j1 n a0 a1 p0_0 = some r → posF Try.prog Try.f162 [1, 0, 1] (.bool r) ⟨[(2, .box 1000000500 0), (3, .box 1000000501 0), (49, .bool p0_0)], [], [(1000000500, some [.int .i64 a0.kind, .int .i64 a0.num, .str a0.name, .int .i64 a0.typ.kind, .str a0.typ.name, .ro (List.map TType.ds a0.typ.kids), .ro (List.map strD a0.names), .ro (List.map Term.ds a0.kids)]), (1000000501, some [.int .i64 a1.kind, .int .i64 a1.num, .str a1.name, .int .i64 a1.typ.kind, .str a1.typ.name, .ro (List.map TType.ds a1.typ.kids), .ro (List.map strD a1.names), .ro (List.map Term.ds a1.kids)])]⟩) ∧
    (∀ (a0 : Term) (a1 : Term) (p2_0 : Int) (r : Bool), s_SameTerm_l3 n a0 a1 p2_0 = some r → posF Try.prog Try.f162 [1, 1, 0, 1, 0] (.bool r) ⟨[(2, .box 1000002500 0), (3, .box 1000002501 0), (5, .int .i64 p2_0)], [], [(1000002500, some [.int .i64 a0.kind, .int .i64 a0.num, .str a0.name, .int .i64 a0.typ.kind, .str a0.typ.name, .ro (List.map TType.ds a0.typ.kids), .ro (List.map strD a0.names), .ro (List.map Term.ds a0.kids)]), (1000002501, some [.int .i64 a1.kind, .int .i64 a1.num, .str a1.name, .int .i64 a1.typ.kind, .str a1.typ.name, .ro (List.map TType.ds a1.typ.kids), .ro (List.map strD a1.names), .ro (List.map Term.ds a1.kids)])]⟩) := by
  induction n with
  | zero => exact ⟨(fun _ _ _ h => by rw [s_SameTerm] at h; cases h), (fun _ _ _ _ h => by rw [s_SameTerm_j1] at h; cases h), (fun _ _ _ _ h => by rw [s_SameTerm_l3] at h; cases h)⟩
  | succ n ih =>
    obtain ⟨ih0, ih1, ih2⟩ := ih
    refine ⟨?_, ?_, ?_⟩
    · intro a0 a1 r h
      rw [s_SameTerm] at h
      refine ac_fn mixed Try.func162 rfl rfl rfl (by kernel_rfl) (by kernel_rfl) ?_
      try simp only [go_sem, Nat.reduceEqDiff, reduceIte, Nat.reduceAdd, Nat.reduceMul, Nat.reduceLeDiff, Nat.reduceLT]
      refine cond_i (fun hb1 => ?_) (fun hb1 => ?_)
      · replace h := ifT (c := (!decide (a0.kind = a1.kind))) hb1 h
        try simp only [go_sem, Nat.reduceEqDiff, reduceIte, Nat.reduceAdd, Nat.reduceMul, Nat.reduceLeDiff, Nat.reduceLT]
        have hj := posF_to rfl rfl (ih1 a0 a1 true _ h)
        refine seq_to hj (.one ⟨_, .done _, [], [(1000000500, 1000), (1000000501, 1001)], ?_⟩)
        clear hj
        try simp only [go_sem, Nat.reduceEqDiff, reduceIte, Nat.reduceAdd, Nat.reduceMul, Nat.reduceLeDiff, Nat.reduceLT]
      · replace h := ifF (c := (!decide (a0.kind = a1.kind))) hb1 h
        try simp only [go_sem, Nat.reduceEqDiff, reduceIte, Nat.reduceAdd, Nat.reduceMul, Nat.reduceLeDiff, Nat.reduceLT]
        refine cond_i (fun hb2 => ?_) (fun hb2 => ?_)
        · replace h := ifT (c := (!decide (a0.num = a1.num))) hb2 h
          try simp only [go_sem, Nat.reduceEqDiff, reduceIte, Nat.reduceAdd, Nat.reduceMul, Nat.reduceLeDiff, Nat.reduceLT]
          have hj := posF_to rfl rfl (ih1 a0 a1 true _ h)
          refine seq_to hj (.one ⟨_, .done _, [], [(1000000500, 1000), (1000000501, 1001)], ?_⟩)
          clear hj
          try simp only [go_sem, Nat.reduceEqDiff, reduceIte, Nat.reduceAdd, Nat.reduceMul, Nat.reduceLeDiff, Nat.reduceLT]
        · replace h := ifF (c := (!decide (a0.num = a1.num))) hb2 h
          try simp only [go_sem, Nat.reduceEqDiff, reduceIte, Nat.reduceAdd, Nat.reduceMul, Nat.reduceLeDiff, Nat.reduceLT]
          refine cond_i (fun hb3 => ?_) (fun hb3 => ?_)
          · replace h := ifT (c := (!sameStr a0.name a1.name)) hb3 h
            try simp only [go_sem, Nat.reduceEqDiff, reduceIte, Nat.reduceAdd, Nat.reduceMul, Nat.reduceLeDiff, Nat.reduceLT]
            have hj := posF_to rfl rfl (ih1 a0 a1 true _ h)
            refine seq_to hj (.one ⟨_, .done _, [], [(1000000500, 1000), (1000000501, 1001)], ?_⟩)
            clear hj
            try simp only [go_sem, Nat.reduceEqDiff, reduceIte, Nat.reduceAdd, Nat.reduceMul, Nat.reduceLeDiff, Nat.reduceLT]
          · replace h := ifF (c := (!sameStr a0.name a1.name)) hb3 h
            try simp only [go_sem, Nat.reduceEqDiff, reduceIte, Nat.reduceAdd, Nat.reduceMul, Nat.reduceLeDiff, Nat.reduceLT]
            obtain ⟨v2024, hv2024, h⟩ := bindE h
            refine call_i (s_SameType_ok fuel _ _ _ hv2024) ?_
            try simp only [go_sem, Nat.reduceEqDiff, reduceIte, Nat.reduceAdd, Nat.reduceMul, Nat.reduceLeDiff, Nat.reduceLT]
            refine cond_i (fun hb4 => ?_) (fun hb4 => ?_)
            · replace h := ifT (c := (!v2024)) hb4 h
              try simp only [go_sem, Nat.reduceEqDiff, reduceIte, Nat.reduceAdd, Nat.reduceMul, Nat.reduceLeDiff, Nat.reduceLT]
              have hj := posF_to rfl rfl (ih1 a0 a1 true _ h)
              refine seq_to hj (.one ⟨_, .done _, [], [(1000000500, 1000), (1000000501, 1001)], ?_⟩)
              clear hj
              try simp only [go_sem, Nat.reduceEqDiff, reduceIte, Nat.reduceAdd, Nat.reduceMul, Nat.reduceLeDiff, Nat.reduceLT]
            · replace h := ifF (c := (!v2024)) hb4 h
              try simp only [go_sem, Nat.reduceEqDiff, reduceIte, Nat.reduceAdd, Nat.reduceMul, Nat.reduceLeDiff, Nat.reduceLT]
              obtain ⟨v2032, hv2032, h⟩ := bindE h
              refine call_i (s_l03SameNames_ok _ _ _ hv2032) ?_
              try simp only [go_sem, Nat.reduceEqDiff, reduceIte, Nat.reduceAdd, Nat.reduceMul, Nat.reduceLeDiff, Nat.reduceLT]
              refine cond_i (fun hb5 => ?_) (fun hb5 => ?_)
              · replace h := ifT (c := (!v2032)) hb5 h
                try simp only [go_sem, Nat.reduceEqDiff, reduceIte, Nat.reduceAdd, Nat.reduceMul, Nat.reduceLeDiff, Nat.reduceLT]
                have hj := posF_to rfl rfl (ih1 a0 a1 true _ h)
                refine seq_to hj (.one ⟨_, .done _, [], [(1000000500, 1000), (1000000501, 1001)], ?_⟩)
                clear hj
                try simp only [go_sem, Nat.reduceEqDiff, reduceIte, Nat.reduceAdd, Nat.reduceMul, Nat.reduceLeDiff, Nat.reduceLT]
              · replace h := ifF (c := (!v2032)) hb5 h
                try simp only [go_sem, Nat.reduceEqDiff, reduceIte, Nat.reduceAdd, Nat.reduceMul, Nat.reduceLeDiff, Nat.reduceLT]
                have hj := posF_to rfl rfl (ih1 a0 a1 (!decide (((List.length a0.kids : Nat) : Int) = ((List.length a1.kids : Nat) : Int))) _ h)
                refine seq_to hj (.one ⟨_, .done _, [], [(1000000500, 1000), (1000000501, 1001)], ?_⟩)
                clear hj
                try simp only [go_sem, Nat.reduceEqDiff, reduceIte, Nat.reduceAdd, Nat.reduceMul, Nat.reduceLeDiff, Nat.reduceLT]
    · intro a0 a1 p0_0 r h
      rw [s_SameTerm_j1] at h
      refine posF_of rfl rfl ?_
      try simp only [go_sem, Nat.reduceEqDiff, reduceIte, Nat.reduceAdd, Nat.reduceMul, Nat.reduceLeDiff, Nat.reduceLT]
      refine cond_i (fun hb6 => ?_) (fun hb6 => ?_)
      · replace h := ifT (c := p0_0) hb6 h
        try simp only [go_sem, Nat.reduceEqDiff, reduceIte, Nat.reduceAdd, Nat.reduceMul, Nat.reduceLeDiff, Nat.reduceLT]
        obtain rfl := Option.some.inj h
        simp only [go_sem, Nat.reduceEqDiff, reduceIte, Nat.reduceAdd, Nat.reduceMul, Nat.reduceLeDiff, Nat.reduceLT]
      · replace h := ifF (c := p0_0) hb6 h
        try simp only [go_sem, Nat.reduceEqDiff, reduceIte, Nat.reduceAdd, Nat.reduceMul, Nat.reduceLeDiff, Nat.reduceLT]
        refine seq_go ?_
        try simp only [go_sem, Nat.reduceEqDiff, reduceIte, Nat.reduceAdd, Nat.reduceMul, Nat.reduceLeDiff, Nat.reduceLT]
        have hj := posF_to rfl rfl (ih2 a0 a1 0 _ h)
        refine loop_to hj (.one ⟨_, .done _, [], [(1000002500, 1000000500), (1000002501, 1000000501)], ?_⟩)
        clear hj
        try simp only [go_sem, Nat.reduceEqDiff, reduceIte, Nat.reduceAdd, Nat.reduceMul, Nat.reduceLeDiff, Nat.reduceLT]
    · intro a0 a1 p2_0 r h
      rw [s_SameTerm_l3] at h
      refine posF_of rfl rfl ?_
      try simp only [go_sem, Nat.reduceEqDiff, reduceIte, Nat.reduceAdd, Nat.reduceMul, Nat.reduceLeDiff, Nat.reduceLT]
      refine loop_i ?_
      try simp only [go_sem, Nat.reduceEqDiff, reduceIte, Nat.reduceAdd, Nat.reduceMul, Nat.reduceLeDiff, Nat.reduceLT]
      refine cond_i (fun hb7 => ?_) (fun hb7 => ?_)
      · replace h := ifT (c := (decide (p2_0 < ((List.length a0.kids : Nat) : Int)))) hb7 h
        try simp only [go_sem, Nat.reduceEqDiff, reduceIte, Nat.reduceAdd, Nat.reduceMul, Nat.reduceLeDiff, Nat.reduceLT]
        refine seq_go ?_
        try simp only [go_sem, Nat.reduceEqDiff, reduceIte, Nat.reduceAdd, Nat.reduceMul, Nat.reduceLeDiff, Nat.reduceLT]
        obtain ⟨v7003, hv7003, h⟩ := bindE h
        refine idx_m hv7003 (Term.ds_len _) ?_
        try simp only [go_sem, Nat.reduceEqDiff, reduceIte, Nat.reduceAdd, Nat.reduceMul, Nat.reduceLeDiff, Nat.reduceLT]
        obtain ⟨v7008, hv7008, h⟩ := bindE h
        refine idx_m hv7008 (Term.ds_len _) ?_
        try simp only [go_sem, Nat.reduceEqDiff, reduceIte, Nat.reduceAdd, Nat.reduceMul, Nat.reduceLeDiff, Nat.reduceLT]
        obtain ⟨v7010, hv7010, h⟩ := bindE h
        refine call_i (ih0 _ _ _ hv7010) ?_
        try simp only [go_sem, Nat.reduceEqDiff, reduceIte, Nat.reduceAdd, Nat.reduceMul, Nat.reduceLeDiff, Nat.reduceLT]
        refine cond_i (fun hb8 => ?_) (fun hb8 => ?_)
        · replace h := ifT (c := (!v7010)) hb8 h
          try simp only [go_sem, Nat.reduceEqDiff, reduceIte, Nat.reduceAdd, Nat.reduceMul, Nat.reduceLeDiff, Nat.reduceLT]
          obtain rfl := Option.some.inj h
          simp only [go_sem, Nat.reduceEqDiff, reduceIte, Nat.reduceAdd, Nat.reduceMul, Nat.reduceLeDiff, Nat.reduceLT]
        · replace h := ifF (c := (!v7010)) hb8 h
          try simp only [go_sem, Nat.reduceEqDiff, reduceIte, Nat.reduceAdd, Nat.reduceMul, Nat.reduceLeDiff, Nat.reduceLT]
          refine seq_go ?_
          try simp only [go_sem, Nat.reduceEqDiff, reduceIte, Nat.reduceAdd, Nat.reduceMul, Nat.reduceLeDiff, Nat.reduceLT]
          have hj := posF_to rfl rfl (ih2 a0 a1 (IntKind.i64.wrap (p2_0 + 1)) _ h)
          refine lp_to hj (.one ⟨_, .done _, [], [(1000002500, 1000002500), (1000002501, 1000002501)], ?_⟩)
          clear hj
          try simp only [go_sem, Nat.reduceEqDiff, reduceIte, Nat.reduceAdd, Nat.reduceMul, Nat.reduceLeDiff, Nat.reduceLT]
      · replace h := ifF (c := (decide (p2_0 < ((List.length a0.kids : Nat) : Int)))) hb7 h
        try simp only [go_sem, Nat.reduceEqDiff, reduceIte, Nat.reduceAdd, Nat.reduceMul, Nat.reduceLeDiff, Nat.reduceLT]
        refine seq_go ?_
        try simp only [go_sem, Nat.reduceEqDiff, reduceIte, Nat.reduceAdd, Nat.reduceMul, Nat.reduceLeDiff, Nat.reduceLT]
        obtain rfl := Option.some.inj h
        simp only [go_sem, Nat.reduceEqDiff, reduceIte, Nat.reduceAdd, Nat.reduceMul, Nat.reduceLeDiff, Nat.reduceLT]
theorem s_SameTerm_ok (n : Nat) : (∀ (a0 : Term) (a1 : Term) (r : Bool), s_SameTerm n a0 a1 = some r → AC Try.prog 162 [.agg (Term.avs a0), .agg (Term.avs a1)] (.bool r)) := (s_SameTerm_all n).1
theorem s_SameTerm_j1_ok (n : Nat) : (∀ (a0 : Term) (a1 : Term) (p0_0 : Bool) (r : Bool), s_SameTerm_j1 n a0 a1 p0_0 = some r → posF Try.prog Try.f162 [1, 0, 1] (.bool r) ⟨[(2, .box 1000000500 0), (3, .box 1000000501 0), (49, .bool p0_0)], [], [(1000000500, some [.int .i64 a0.kind, .int .i64 a0.num, .str a0.name, .int .i64 a0.typ.kind, .str a0.typ.name, .ro (List.map TType.ds a0.typ.kids), .ro (List.map strD a0.names), .ro (List.map Term.ds a0.kids)]), (1000000501, some [.int .i64 a1.kind, .int .i64 a1.num, .str a1.name, .int .i64 a1.typ.kind, .str a1.typ.name, .ro (List.map TType.ds a1.typ.kids), .ro (List.map strD a1.names), .ro (List.map Term.ds a1.kids)])]⟩) := (s_SameTerm_all n).2.1
theorem s_SameTerm_l3_ok (n : Nat) : (∀ (a0 : Term) (a1 : Term) (p2_0 : Int) (r : Bool), s_SameTerm_l3 n a0 a1 p2_0 = some r → posF Try.prog Try.f162 [1, 1, 0, 1, 0] (.bool r) ⟨[(2, .box 1000002500 0), (3, .box 1000002501 0), (5, .int .i64 p2_0)], [], [(1000002500, some [.int .i64 a0.kind, .int .i64 a0.num, .str a0.name, .int .i64 a0.typ.kind, .str a0.typ.name, .ro (List.map TType.ds a0.typ.kids), .ro (List.map strD a0.names), .ro (List.map Term.ds a0.kids)]), (1000002501, some [.int .i64 a1.kind, .int .i64 a1.num, .str a1.name, .int .i64 a1.typ.kind, .str a1.typ.name, .ro (List.map TType.ds a1.typ.kids), .ro (List.map strD a1.names), .ro (List.map Term.ds a1.kids)])]⟩) := (s_SameTerm_all n).2.2

theorem s_SameProgram_l10_all (n : Nat) : (∀ (a0 : TProgram) (a1 : TProgram) (p5_0 : Int) (r : Bool), s_SameProgram_l10 n a0 a1 p5_0 = some r → posF Try.prog Try.f89 [1, 1, 1, 0, 1, 0] (.bool r) ⟨[(2, .box 1000005500 0), (3, .box 1000005501 0), (6, .int .i64 p5_0)], [], [(1000005500, some [.ro (List.map Data.ds a0.datas), .ro (List.map Def.ds a0.defs)]), (1000005501, some [.ro (List.map Data.ds a1.datas), .ro (List.map Def.ds a1.defs)])]⟩) ∧
    (∀ (a0 : TProgram) (a1 : TProgram) (p5_0 : Int) (p6_0 : Bool) (r : Bool), s_SameProgram_j11 n a0 a1 p5_0 p6_0 = some r → posF Try.prog Try.f89 [1, 1, 1, 0, 1, 0, 0, 1, 0, 0, 1] (.bool r) ⟨[(2, .box 1000006500 0), (3, .box 1000006501 0), (6, .int .i64 p5_0), (93, .bool p6_0)], [], [(1000006500, some [.ro (List.map Data.ds a0.datas), .ro (List.map Def.ds a0.defs)]), (1000006501, some [.ro (List.map Data.ds a1.datas), .ro (List.map Def.ds a1.defs)])]⟩) := by
  induction n with
  | zero => exact ⟨(fun _ _ _ _ h => by rw [s_SameProgram_l10] at h; cases h), (fun _ _ _ _ _ h => by rw [s_SameProgram_j11] at h; cases h)⟩
  | succ n ih =>
    obtain ⟨ih0, ih1⟩ := ih
    refine ⟨?_, ?_⟩
    · intro a0 a1 p5_0 r h
      rw [s_SameProgram_l10] at h
      refine posF_of rfl rfl ?_
      try simp only [go_sem, Nat.reduceEqDiff, reduceIte, Nat.reduceAdd, Nat.reduceMul, Nat.reduceLeDiff, Nat.reduceLT]
      refine loop_i ?_
      try simp only [go_sem, Nat.reduceEqDiff, reduceIte, Nat.reduceAdd, Nat.reduceMul, Nat.reduceLeDiff, Nat.reduceLT]
      refine cond_i (fun hb5 => ?_) (fun hb5 => ?_)
      · replace h := ifT (c := (decide (p5_0 < ((List.length a0.defs : Nat) : Int)))) hb5 h
        try simp only [go_sem, Nat.reduceEqDiff, reduceIte, Nat.reduceAdd, Nat.reduceMul, Nat.reduceLeDiff, Nat.reduceLT]
        refine seq_go ?_
        try simp only [go_sem, Nat.reduceEqDiff, reduceIte, Nat.reduceAdd, Nat.reduceMul, Nat.reduceLeDiff, Nat.reduceLT]
        obtain ⟨v12003, hv12003, h⟩ := bindE h
        refine idx_m hv12003 (Def.ds_len _) ?_
        try simp only [go_sem, Nat.reduceEqDiff, reduceIte, Nat.reduceAdd, Nat.reduceMul, Nat.reduceLeDiff, Nat.reduceLT]
        obtain ⟨v12009, hv12009, h⟩ := bindE h
        refine idx_m hv12009 (Def.ds_len _) ?_
        try simp only [go_sem, Nat.reduceEqDiff, reduceIte, Nat.reduceAdd, Nat.reduceMul, Nat.reduceLeDiff, Nat.reduceLT]
        refine cond_i (fun hb6 => ?_) (fun hb6 => ?_)
        · replace h := ifT (c := (!sameStr v12003.name v12009.name)) hb6 h
          try simp only [go_sem, Nat.reduceEqDiff, reduceIte, Nat.reduceAdd, Nat.reduceMul, Nat.reduceLeDiff, Nat.reduceLT]
          have hj := posF_to rfl rfl (ih1 a0 a1 p5_0 true _ h)
          refine seq_to hj (.one ⟨_, .done _, [], [(1000006500, 1000005500), (1000006501, 1000005501)], ?_⟩)
          clear hj
          try simp only [go_sem, Nat.reduceEqDiff, reduceIte, Nat.reduceAdd, Nat.reduceMul, Nat.reduceLeDiff, Nat.reduceLT]
        · replace h := ifF (c := (!sameStr v12003.name v12009.name)) hb6 h
          try simp only [go_sem, Nat.reduceEqDiff, reduceIte, Nat.reduceAdd, Nat.reduceMul, Nat.reduceLeDiff, Nat.reduceLT]
          obtain ⟨v12017, hv12017, h⟩ := bindE h
          refine idx_m hv12017 (Def.ds_len _) ?_
          try simp only [go_sem, Nat.reduceEqDiff, reduceIte, Nat.reduceAdd, Nat.reduceMul, Nat.reduceLeDiff, Nat.reduceLT]
          obtain ⟨v12023, hv12023, h⟩ := bindE h
          refine idx_m hv12023 (Def.ds_len _) ?_
          try simp only [go_sem, Nat.reduceEqDiff, reduceIte, Nat.reduceAdd, Nat.reduceMul, Nat.reduceLeDiff, Nat.reduceLT]
          obtain ⟨v12026, hv12026, h⟩ := bindE h
          refine call_i (s_SameType_ok fuel _ _ _ hv12026) ?_
          try simp only [go_sem, Nat.reduceEqDiff, reduceIte, Nat.reduceAdd, Nat.reduceMul, Nat.reduceLeDiff, Nat.reduceLT]
          refine cond_i (fun hb7 => ?_) (fun hb7 => ?_)
          · replace h := ifT (c := (!v12026)) hb7 h
            try simp only [go_sem, Nat.reduceEqDiff, reduceIte, Nat.reduceAdd, Nat.reduceMul, Nat.reduceLeDiff, Nat.reduceLT]
            have hj := posF_to rfl rfl (ih1 a0 a1 p5_0 true _ h)
            refine seq_to hj (.one ⟨_, .done _, [], [(1000006500, 1000005500), (1000006501, 1000005501)], ?_⟩)
            clear hj
            try simp only [go_sem, Nat.reduceEqDiff, reduceIte, Nat.reduceAdd, Nat.reduceMul, Nat.reduceLeDiff, Nat.reduceLT]
          · replace h := ifF (c := (!v12026)) hb7 h
            try simp only [go_sem, Nat.reduceEqDiff, reduceIte, Nat.reduceAdd, Nat.reduceMul, Nat.reduceLeDiff, Nat.reduceLT]
            obtain ⟨v12033, hv12033, h⟩ := bindE h
            refine idx_m hv12033 (Def.ds_len _) ?_
            try simp only [go_sem, Nat.reduceEqDiff, reduceIte, Nat.reduceAdd, Nat.reduceMul, Nat.reduceLeDiff, Nat.reduceLT]
            obtain ⟨v12039, hv12039, h⟩ := bindE h
            refine idx_m hv12039 (Def.ds_len _) ?_
            try simp only [go_sem, Nat.reduceEqDiff, reduceIte, Nat.reduceAdd, Nat.reduceMul, Nat.reduceLeDiff, Nat.reduceLT]
            obtain ⟨v12042, hv12042, h⟩ := bindE h
            refine call_i (s_SameTerm_ok fuel _ _ _ hv12042) ?_
            try simp only [go_sem, Nat.reduceEqDiff, reduceIte, Nat.reduceAdd, Nat.reduceMul, Nat.reduceLeDiff, Nat.reduceLT]
            have hj := posF_to rfl rfl (ih1 a0 a1 p5_0 (!v12042) _ h)
            refine seq_to hj (.one ⟨_, .done _, [], [(1000006500, 1000005500), (1000006501, 1000005501)], ?_⟩)
            clear hj
            try simp only [go_sem, Nat.reduceEqDiff, reduceIte, Nat.reduceAdd, Nat.reduceMul, Nat.reduceLeDiff, Nat.reduceLT]
      · replace h := ifF (c := (decide (p5_0 < ((List.length a0.defs : Nat) : Int)))) hb5 h
        try simp only [go_sem, Nat.reduceEqDiff, reduceIte, Nat.reduceAdd, Nat.reduceMul, Nat.reduceLeDiff, Nat.reduceLT]
        refine seq_go ?_
        try simp only [go_sem, Nat.reduceEqDiff, reduceIte, Nat.reduceAdd, Nat.reduceMul, Nat.reduceLeDiff, Nat.reduceLT]
        obtain rfl := Option.some.inj h
        simp only [go_sem, Nat.reduceEqDiff, reduceIte, Nat.reduceAdd, Nat.reduceMul, Nat.reduceLeDiff, Nat.reduceLT]
    · intro a0 a1 p5_0 p6_0 r h
      rw [s_SameProgram_j11] at h
      refine posF_of rfl rfl ?_
      try simp only [go_sem, Nat.reduceEqDiff, reduceIte, Nat.reduceAdd, Nat.reduceMul, Nat.reduceLeDiff, Nat.reduceLT]
      refine cond_i (fun hb8 => ?_) (fun hb8 => ?_)
      · replace h := ifT (c := p6_0) hb8 h
        try simp only [go_sem, Nat.reduceEqDiff, reduceIte, Nat.reduceAdd, Nat.reduceMul, Nat.reduceLeDiff, Nat.reduceLT]
        obtain rfl := Option.some.inj h
        simp only [go_sem, Nat.reduceEqDiff, reduceIte, Nat.reduceAdd, Nat.reduceMul, Nat.reduceLeDiff, Nat.reduceLT]
      · replace h := ifF (c := p6_0) hb8 h
        try simp only [go_sem, Nat.reduceEqDiff, reduceIte, Nat.reduceAdd, Nat.reduceMul, Nat.reduceLeDiff, Nat.reduceLT]
        refine seq_go ?_
        try simp only [go_sem, Nat.reduceEqDiff, reduceIte, Nat.reduceAdd, Nat.reduceMul, Nat.reduceLeDiff, Nat.reduceLT]
        have hj := posF_to rfl rfl (ih0 a0 a1 (IntKind.i64.wrap (p5_0 + 1)) _ h)
        refine lp_to hj (.one ⟨_, .done _, [], [(1000005500, 1000006500), (1000005501, 1000006501)], ?_⟩)
        clear hj
        try simp only [go_sem, Nat.reduceEqDiff, reduceIte, Nat.reduceAdd, Nat.reduceMul, Nat.reduceLeDiff, Nat.reduceLT]
theorem s_SameProgram_l10_ok (n : Nat) : (∀ (a0 : TProgram) (a1 : TProgram) (p5_0 : Int) (r : Bool), s_SameProgram_l10 n a0 a1 p5_0 = some r → posF Try.prog Try.f89 [1, 1, 1, 0, 1, 0] (.bool r) ⟨[(2, .box 1000005500 0), (3, .box 1000005501 0), (6, .int .i64 p5_0)], [], [(1000005500, some [.ro (List.map Data.ds a0.datas), .ro (List.map Def.ds a0.defs)]), (1000005501, some [.ro (List.map Data.ds a1.datas), .ro (List.map Def.ds a1.defs)])]⟩) := (s_SameProgram_l10_all n).1
theorem s_SameProgram_j11_ok (n : Nat) : (∀ (a0 : TProgram) (a1 : TProgram) (p5_0 : Int) (p6_0 : Bool) (r : Bool), s_SameProgram_j11 n a0 a1 p5_0 p6_0 = some r → posF Try.prog Try.f89 [1, 1, 1, 0, 1, 0, 0, 1, 0, 0, 1] (.bool r) ⟨[(2, .box 1000006500 0), (3, .box 1000006501 0), (6, .int .i64 p5_0), (93, .bool p6_0)], [], [(1000006500, some [.ro (List.map Data.ds a0.datas), .ro (List.map Def.ds a0.defs)]), (1000006501, some [.ro (List.map Data.ds a1.datas), .ro (List.map Def.ds a1.defs)])]⟩) := (s_SameProgram_l10_all n).2

theorem s_SameProgram_l3_all (n : Nat) : (∀ (a0 : TProgram) (a1 : TProgram) (p2_0 : Int) (r : Bool), s_SameProgram_l3 n a0 a1 p2_0 = some r → posF Try.prog Try.f89 [1, 1, 0, 1, 0] (.bool r) ⟨[(2, .box 1000002500 0), (3, .box 1000002501 0), (5, .int .i64 p2_0)], [], [(1000002500, some [.ro (List.map Data.ds a0.datas), .ro (List.map Def.ds a0.defs)]), (1000002501, some [.ro (List.map Data.ds a1.datas), .ro (List.map Def.ds a1.defs)])]⟩) := by
  induction n with
  | zero => exact ((fun _ _ _ _ h => by rw [s_SameProgram_l3] at h; cases h))
  | succ n ih =>
    have ih0 := ih
    · intro a0 a1 p2_0 r h
      rw [s_SameProgram_l3] at h
      refine posF_of rfl rfl ?_
      try simp only [go_sem, Nat.reduceEqDiff, reduceIte, Nat.reduceAdd, Nat.reduceMul, Nat.reduceLeDiff, Nat.reduceLT]
      refine loop_i ?_
      try simp only [go_sem, Nat.reduceEqDiff, reduceIte, Nat.reduceAdd, Nat.reduceMul, Nat.reduceLeDiff, Nat.reduceLT]
      refine cond_i (fun hb3 => ?_) (fun hb3 => ?_)
      · replace h := ifT (c := (decide (p2_0 < ((List.length a0.datas : Nat) : Int)))) hb3 h
        try simp only [go_sem, Nat.reduceEqDiff, reduceIte, Nat.reduceAdd, Nat.reduceMul, Nat.reduceLeDiff, Nat.reduceLT]
        refine seq_go ?_
        try simp only [go_sem, Nat.reduceEqDiff, reduceIte, Nat.reduceAdd, Nat.reduceMul, Nat.reduceLeDiff, Nat.reduceLT]
        obtain ⟨v7003, hv7003, h⟩ := bindE h
        refine idx_m hv7003 (Data.ds_len _) ?_
        try simp only [go_sem, Nat.reduceEqDiff, reduceIte, Nat.reduceAdd, Nat.reduceMul, Nat.reduceLeDiff, Nat.reduceLT]
        obtain ⟨v7008, hv7008, h⟩ := bindE h
        refine idx_m hv7008 (Data.ds_len _) ?_
        try simp only [go_sem, Nat.reduceEqDiff, reduceIte, Nat.reduceAdd, Nat.reduceMul, Nat.reduceLeDiff, Nat.reduceLT]
        obtain ⟨v7010, hv7010, h⟩ := bindE h
        refine call_i (s_l03SameData_ok _ _ _ hv7010) ?_
        try simp only [go_sem, Nat.reduceEqDiff, reduceIte, Nat.reduceAdd, Nat.reduceMul, Nat.reduceLeDiff, Nat.reduceLT]
        refine cond_i (fun hb4 => ?_) (fun hb4 => ?_)
        · replace h := ifT (c := (!v7010)) hb4 h
          try simp only [go_sem, Nat.reduceEqDiff, reduceIte, Nat.reduceAdd, Nat.reduceMul, Nat.reduceLeDiff, Nat.reduceLT]
          obtain rfl := Option.some.inj h
          simp only [go_sem, Nat.reduceEqDiff, reduceIte, Nat.reduceAdd, Nat.reduceMul, Nat.reduceLeDiff, Nat.reduceLT]
        · replace h := ifF (c := (!v7010)) hb4 h
          try simp only [go_sem, Nat.reduceEqDiff, reduceIte, Nat.reduceAdd, Nat.reduceMul, Nat.reduceLeDiff, Nat.reduceLT]
          refine seq_go ?_
          try simp only [go_sem, Nat.reduceEqDiff, reduceIte, Nat.reduceAdd, Nat.reduceMul, Nat.reduceLeDiff, Nat.reduceLT]
          have hj := posF_to rfl rfl (ih0 a0 a1 (IntKind.i64.wrap (p2_0 + 1)) _ h)
          refine lp_to hj (.one ⟨_, .done _, [], [(1000002500, 1000002500), (1000002501, 1000002501)], ?_⟩)
          clear hj
          try simp only [go_sem, Nat.reduceEqDiff, reduceIte, Nat.reduceAdd, Nat.reduceMul, Nat.reduceLeDiff, Nat.reduceLT]
      · replace h := ifF (c := (decide (p2_0 < ((List.length a0.datas : Nat) : Int)))) hb3 h
        try simp only [go_sem, Nat.reduceEqDiff, reduceIte, Nat.reduceAdd, Nat.reduceMul, Nat.reduceLeDiff, Nat.reduceLT]
        refine seq_go ?_
        try simp only [go_sem, Nat.reduceEqDiff, reduceIte, Nat.reduceAdd, Nat.reduceMul, Nat.reduceLeDiff, Nat.reduceLT]
        have hj := posF_to rfl rfl (s_SameProgram_l10_ok fuel a0 a1 0 _ h)
        refine loop_to hj (.one ⟨_, .done _, [], [(1000005500, 1000002500), (1000005501, 1000002501)], ?_⟩)
        clear hj
        try simp only [go_sem, Nat.reduceEqDiff, reduceIte, Nat.reduceAdd, Nat.reduceMul, Nat.reduceLeDiff, Nat.reduceLT]
theorem s_SameProgram_l3_ok (n : Nat) : (∀ (a0 : TProgram) (a1 : TProgram) (p2_0 : Int) (r : Bool), s_SameProgram_l3 n a0 a1 p2_0 = some r → posF Try.prog Try.f89 [1, 1, 0, 1, 0] (.bool r) ⟨[(2, .box 1000002500 0), (3, .box 1000002501 0), (5, .int .i64 p2_0)], [], [(1000002500, some [.ro (List.map Data.ds a0.datas), .ro (List.map Def.ds a0.defs)]), (1000002501, some [.ro (List.map Data.ds a1.datas), .ro (List.map Def.ds a1.defs)])]⟩) := (s_SameProgram_l3_all n)

theorem s_SameProgram_j1_ok (a0 : TProgram) (a1 : TProgram) (p0_0 : Bool) (r : Bool) (h : s_SameProgram_j1 a0 a1 p0_0 = some r) : posF Try.prog Try.f89 [1, 0, 1] (.bool r) ⟨[(2, .box 1000000500 0), (3, .box 1000000501 0), (22, .bool p0_0)], [], [(1000000500, some [.ro (List.map Data.ds a0.datas), .ro (List.map Def.ds a0.defs)]), (1000000501, some [.ro (List.map Data.ds a1.datas), .ro (List.map Def.ds a1.defs)])]⟩ := by
  unfold s_SameProgram_j1 at h
  refine posF_of rfl rfl ?_
  try simp only [go_sem, Nat.reduceEqDiff, reduceIte, Nat.reduceAdd, Nat.reduceMul, Nat.reduceLeDiff, Nat.reduceLT]
  refine cond_i (fun hb2 => ?_) (fun hb2 => ?_)
  · replace h := ifT (c := p0_0) hb2 h
    try simp only [go_sem, Nat.reduceEqDiff, reduceIte, Nat.reduceAdd, Nat.reduceMul, Nat.reduceLeDiff, Nat.reduceLT]
    obtain rfl := Option.some.inj h
    simp only [go_sem, Nat.reduceEqDiff, reduceIte, Nat.reduceAdd, Nat.reduceMul, Nat.reduceLeDiff, Nat.reduceLT]
  · replace h := ifF (c := p0_0) hb2 h
    try simp only [go_sem, Nat.reduceEqDiff, reduceIte, Nat.reduceAdd, Nat.reduceMul, Nat.reduceLeDiff, Nat.reduceLT]
    refine seq_go ?_
    try simp only [go_sem, Nat.reduceEqDiff, reduceIte, Nat.reduceAdd, Nat.reduceMul, Nat.reduceLeDiff, Nat.reduceLT]
    have hj := posF_to rfl rfl (s_SameProgram_l3_ok fuel a0 a1 0 _ h)
    refine loop_to hj (.one ⟨_, .done _, [], [(1000002500, 1000000500), (1000002501, 1000000501)], ?_⟩)
    clear hj
    try simp only [go_sem, Nat.reduceEqDiff, reduceIte, Nat.reduceAdd, Nat.reduceMul, Nat.reduceLeDiff, Nat.reduceLT]
theorem s_SameProgram_ok (a0 : TProgram) (a1 : TProgram) (r : Bool) (h : s_SameProgram a0 a1 = some r) : AC Try.prog 89 [.agg (TProgram.avs a0), .agg (TProgram.avs a1)] (.bool r) := by
  unfold s_SameProgram at h
  refine ac_fn mixed Try.func89 rfl rfl rfl (by kernel_rfl) (by kernel_rfl) ?_
  try simp only [go_sem, Nat.reduceEqDiff, reduceIte, Nat.reduceAdd, Nat.reduceMul, Nat.reduceLeDiff, Nat.reduceLT]
  refine cond_i (fun hb1 => ?_) (fun hb1 => ?_)
  · replace h := ifT (c := (!decide (((List.length a0.datas : Nat) : Int) = ((List.length a1.datas : Nat) : Int)))) hb1 h
    try simp only [go_sem, Nat.reduceEqDiff, reduceIte, Nat.reduceAdd, Nat.reduceMul, Nat.reduceLeDiff, Nat.reduceLT]
    have hj := posF_to rfl rfl (s_SameProgram_j1_ok a0 a1 true _ h)
    refine seq_to hj (.one ⟨_, .done _, [], [(1000000500, 1000), (1000000501, 1001)], ?_⟩)
    clear hj
    try simp only [go_sem, Nat.reduceEqDiff, reduceIte, Nat.reduceAdd, Nat.reduceMul, Nat.reduceLeDiff, Nat.reduceLT]
  · replace h := ifF (c := (!decide (((List.length a0.datas : Nat) : Int) = ((List.length a1.datas : Nat) : Int)))) hb1 h
    try simp only [go_sem, Nat.reduceEqDiff, reduceIte, Nat.reduceAdd, Nat.reduceMul, Nat.reduceLeDiff, Nat.reduceLT]
    have hj := posF_to rfl rfl (s_SameProgram_j1_ok a0 a1 (!decide (((List.length a0.defs : Nat) : Int) = ((List.length a1.defs : Nat) : Int))) _ h)
    refine seq_to hj (.one ⟨_, .done _, [], [(1000000500, 1000), (1000000501, 1001)], ?_⟩)
    clear hj
    try simp only [go_sem, Nat.reduceEqDiff, reduceIte, Nat.reduceAdd, Nat.reduceMul, Nat.reduceLeDiff, Nat.reduceLT]
theorem s_l00Same_l1_all (n : Nat) : (∀ (a0 : List Int) (a1 : List Int) (p0_0 : Int) (r : Bool), s_l00Same_l1 n a0 a1 p0_0 = some r → posF Try.prog Try.f90 [1, 1, 0, 1, 0] (.bool r) ⟨[(0, .ro (List.map i64D a0)), (1, .ro (List.map i64D a1)), (5, .int .i64 p0_0)], [], []⟩) := by
  induction n with
  | zero => exact ((fun _ _ _ _ h => by rw [s_l00Same_l1] at h; cases h))
  | succ n ih =>
    have ih0 := ih
    · intro a0 a1 p0_0 r h
      rw [s_l00Same_l1] at h
      refine posF_of rfl rfl ?_
      try simp only [go_sem, Nat.reduceEqDiff, reduceIte, Nat.reduceAdd, Nat.reduceMul, Nat.reduceLeDiff, Nat.reduceLT]
      refine loop_i ?_
      try simp only [go_sem, Nat.reduceEqDiff, reduceIte, Nat.reduceAdd, Nat.reduceMul, Nat.reduceLeDiff, Nat.reduceLT]
      refine cond_i (fun hb2 => ?_) (fun hb2 => ?_)
      · replace h := ifT (c := (decide (p0_0 < ((List.length a0 : Nat) : Int)))) hb2 h
        try simp only [go_sem, Nat.reduceEqDiff, reduceIte, Nat.reduceAdd, Nat.reduceMul, Nat.reduceLeDiff, Nat.reduceLT]
        refine seq_go ?_
        try simp only [go_sem, Nat.reduceEqDiff, reduceIte, Nat.reduceAdd, Nat.reduceMul, Nat.reduceLeDiff, Nat.reduceLT]
        obtain ⟨v7002, hv7002, h⟩ := bindE h
        refine idx_m hv7002 rfl ?_
        try simp only [go_sem, Nat.reduceEqDiff, reduceIte, Nat.reduceAdd, Nat.reduceMul, Nat.reduceLeDiff, Nat.reduceLT]
        obtain ⟨v7006, hv7006, h⟩ := bindE h
        refine idx_m hv7006 rfl ?_
        try simp only [go_sem, Nat.reduceEqDiff, reduceIte, Nat.reduceAdd, Nat.reduceMul, Nat.reduceLeDiff, Nat.reduceLT]
        refine cond_i (fun hb3 => ?_) (fun hb3 => ?_)
        · replace h := ifT (c := (!decide (v7002 = v7006))) hb3 h
          try simp only [go_sem, Nat.reduceEqDiff, reduceIte, Nat.reduceAdd, Nat.reduceMul, Nat.reduceLeDiff, Nat.reduceLT]
          obtain rfl := Option.some.inj h
          simp only [go_sem, Nat.reduceEqDiff, reduceIte, Nat.reduceAdd, Nat.reduceMul, Nat.reduceLeDiff, Nat.reduceLT]
        · replace h := ifF (c := (!decide (v7002 = v7006))) hb3 h
          try simp only [go_sem, Nat.reduceEqDiff, reduceIte, Nat.reduceAdd, Nat.reduceMul, Nat.reduceLeDiff, Nat.reduceLT]
          refine seq_go ?_
          try simp only [go_sem, Nat.reduceEqDiff, reduceIte, Nat.reduceAdd, Nat.reduceMul, Nat.reduceLeDiff, Nat.reduceLT]
          have hj := posF_to rfl rfl (ih0 a0 a1 (IntKind.i64.wrap (p0_0 + 1)) _ h)
          refine lp_to hj (.one ⟨_, .done _, [], [], ?_⟩)
          clear hj
          try simp only [go_sem, Nat.reduceEqDiff, reduceIte, Nat.reduceAdd, Nat.reduceMul, Nat.reduceLeDiff, Nat.reduceLT]
      · replace h := ifF (c := (decide (p0_0 < ((List.length a0 : Nat) : Int)))) hb2 h
        try simp only [go_sem, Nat.reduceEqDiff, reduceIte, Nat.reduceAdd, Nat.reduceMul, Nat.reduceLeDiff, Nat.reduceLT]
        refine seq_go ?_
        try simp only [go_sem, Nat.reduceEqDiff, reduceIte, Nat.reduceAdd, Nat.reduceMul, Nat.reduceLeDiff, Nat.reduceLT]
        obtain rfl := Option.some.inj h
        simp only [go_sem, Nat.reduceEqDiff, reduceIte, Nat.reduceAdd, Nat.reduceMul, Nat.reduceLeDiff, Nat.reduceLT]
theorem s_l00Same_l1_ok (n : Nat) : (∀ (a0 : List Int) (a1 : List Int) (p0_0 : Int) (r : Bool), s_l00Same_l1 n a0 a1 p0_0 = some r → posF Try.prog Try.f90 [1, 1, 0, 1, 0] (.bool r) ⟨[(0, .ro (List.map i64D a0)), (1, .ro (List.map i64D a1)), (5, .int .i64 p0_0)], [], []⟩) := (s_l00Same_l1_all n)

theorem s_l00Same_ok (a0 : List Int) (a1 : List Int) (r : Bool) (h : s_l00Same a0 a1 = some r) : AC Try.prog 90 [.ro (List.map i64D a0), .ro (List.map i64D a1)] (.bool r) := by
  unfold s_l00Same at h
  refine ac_fn mixed Try.func90 rfl rfl rfl (by kernel_rfl) (by kernel_rfl) ?_
  try simp only [go_sem, Nat.reduceEqDiff, reduceIte, Nat.reduceAdd, Nat.reduceMul, Nat.reduceLeDiff, Nat.reduceLT]
  refine cond_i (fun hb1 => ?_) (fun hb1 => ?_)
  · replace h := ifT (c := (!decide (((List.length a0 : Nat) : Int) = ((List.length a1 : Nat) : Int)))) hb1 h
    try simp only [go_sem, Nat.reduceEqDiff, reduceIte, Nat.reduceAdd, Nat.reduceMul, Nat.reduceLeDiff, Nat.reduceLT]
    obtain rfl := Option.some.inj h
    simp only [go_sem, Nat.reduceEqDiff, reduceIte, Nat.reduceAdd, Nat.reduceMul, Nat.reduceLeDiff, Nat.reduceLT]
  · replace h := ifF (c := (!decide (((List.length a0 : Nat) : Int) = ((List.length a1 : Nat) : Int)))) hb1 h
    try simp only [go_sem, Nat.reduceEqDiff, reduceIte, Nat.reduceAdd, Nat.reduceMul, Nat.reduceLeDiff, Nat.reduceLT]
    refine seq_go ?_
    try simp only [go_sem, Nat.reduceEqDiff, reduceIte, Nat.reduceAdd, Nat.reduceMul, Nat.reduceLeDiff, Nat.reduceLT]
    have hj := posF_to rfl rfl (s_l00Same_l1_ok fuel a0 a1 0 _ h)
    refine loop_to hj (.one ⟨_, .done _, [], [], ?_⟩)
    clear hj
    try simp only [go_sem, Nat.reduceEqDiff, reduceIte, Nat.reduceAdd, Nat.reduceMul, Nat.reduceLeDiff, Nat.reduceLT]
theorem s_SameDesk_ok (a0 : Desk) (a1 : Desk) (r : Bool) (h : s_SameDesk a0 a1 = some r) : AC Try.prog 32 [.agg (Desk.avs a0), .agg (Desk.avs a1)] (.bool r) := by
  unfold s_SameDesk at h
  refine ac_fn mixed Try.func32 rfl rfl rfl (by kernel_rfl) (by kernel_rfl) ?_
  try simp only [go_sem, Nat.reduceEqDiff, reduceIte, Nat.reduceAdd, Nat.reduceMul, Nat.reduceLeDiff, Nat.reduceLT]
  refine cond_i (fun hb1 => ?_) (fun hb1 => ?_)
  · replace h := ifT (c := (a0.loaded == a1.loaded)) hb1 h
    try simp only [go_sem, Nat.reduceEqDiff, reduceIte, Nat.reduceAdd, Nat.reduceMul, Nat.reduceLeDiff, Nat.reduceLT]
    obtain ⟨v2010, hv2010, h⟩ := bindE h
    refine call_i (s_SameProgram_ok _ _ _ hv2010) ?_
    try simp only [go_sem, Nat.reduceEqDiff, reduceIte, Nat.reduceAdd, Nat.reduceMul, Nat.reduceLeDiff, Nat.reduceLT]
    refine cond_i (fun hb2 => ?_) (fun hb2 => ?_)
    · replace h := ifT (c := v2010) hb2 h
      try simp only [go_sem, Nat.reduceEqDiff, reduceIte, Nat.reduceAdd, Nat.reduceMul, Nat.reduceLeDiff, Nat.reduceLT]
      obtain ⟨v2017, hv2017, h⟩ := bindE h
      refine call_i (s_l00Same_ok _ _ _ hv2017) ?_
      try simp only [go_sem, Nat.reduceEqDiff, reduceIte, Nat.reduceAdd, Nat.reduceMul, Nat.reduceLeDiff, Nat.reduceLT]
      refine cond_i (fun hb3 => ?_) (fun hb3 => ?_)
      · replace h := ifT (c := v2017) hb3 h
        try simp only [go_sem, Nat.reduceEqDiff, reduceIte, Nat.reduceAdd, Nat.reduceMul, Nat.reduceLeDiff, Nat.reduceLT]
        refine seq_go ?_
        try simp only [go_sem, Nat.reduceEqDiff, reduceIte, Nat.reduceAdd, Nat.reduceMul, Nat.reduceLeDiff, Nat.reduceLT]
        obtain rfl := Option.some.inj h
        simp only [go_sem, Nat.reduceEqDiff, reduceIte, Nat.reduceAdd, Nat.reduceMul, Nat.reduceLeDiff, Nat.reduceLT]
      · replace h := ifF (c := v2017) hb3 h
        try simp only [go_sem, Nat.reduceEqDiff, reduceIte, Nat.reduceAdd, Nat.reduceMul, Nat.reduceLeDiff, Nat.reduceLT]
        refine seq_go ?_
        try simp only [go_sem, Nat.reduceEqDiff, reduceIte, Nat.reduceAdd, Nat.reduceMul, Nat.reduceLeDiff, Nat.reduceLT]
        obtain rfl := Option.some.inj h
        simp only [go_sem, Nat.reduceEqDiff, reduceIte, Nat.reduceAdd, Nat.reduceMul, Nat.reduceLeDiff, Nat.reduceLT]
    · replace h := ifF (c := v2010) hb2 h
      try simp only [go_sem, Nat.reduceEqDiff, reduceIte, Nat.reduceAdd, Nat.reduceMul, Nat.reduceLeDiff, Nat.reduceLT]
      refine seq_go ?_
      try simp only [go_sem, Nat.reduceEqDiff, reduceIte, Nat.reduceAdd, Nat.reduceMul, Nat.reduceLeDiff, Nat.reduceLT]
      obtain rfl := Option.some.inj h
      simp only [go_sem, Nat.reduceEqDiff, reduceIte, Nat.reduceAdd, Nat.reduceMul, Nat.reduceLeDiff, Nat.reduceLT]
  · replace h := ifF (c := (a0.loaded == a1.loaded)) hb1 h
    try simp only [go_sem, Nat.reduceEqDiff, reduceIte, Nat.reduceAdd, Nat.reduceMul, Nat.reduceLeDiff, Nat.reduceLT]
    refine seq_go ?_
    try simp only [go_sem, Nat.reduceEqDiff, reduceIte, Nat.reduceAdd, Nat.reduceMul, Nat.reduceLeDiff, Nat.reduceLT]
    obtain rfl := Option.some.inj h
    simp only [go_sem, Nat.reduceEqDiff, reduceIte, Nat.reduceAdd, Nat.reduceMul, Nat.reduceLeDiff, Nat.reduceLT]
theorem l_toType_all (n : Nat) : (∀ (a0 : TType) (r : TType), l_toType n a0 = some r → AC Try.prog 295 [.agg (TType.avs a0)] (.agg (TType.rv r))) ∧
    (∀ (a0 : List TType) (r : (List TType)), l_toTypeS n a0 = some r → AC Try.prog 341 [.ro (List.map TType.ds a0)] (.ow (some 3) (List.map TType.ds r))) ∧
    (∀ (a0 : List TType) (p1_0 : List TType) (p1_1 : Int) (r : (List TType)), l_toTypeS_l2 n a0 p1_0 p1_1 = some r → posF Try.prog Try.f341 [1, 1, 0, 1, 0] (.ow (some 3) (List.map TType.ds r)) ⟨[(0, .ro (List.map TType.ds a0)), (3, .own 1000001000), (4, .int .i64 p1_1)], [(1000001000, some ⟨List.map TType.ds p1_0, some 3, 0⟩)], []⟩) := by
  induction n with
  | zero => exact ⟨(fun _ _ h => by rw [l_toType] at h; cases h), (fun _ _ h => by rw [l_toTypeS] at h; cases h), (fun _ _ _ _ h => by rw [l_toTypeS_l2] at h; cases h)⟩
  | succ n ih =>
    obtain ⟨ih0, ih1, ih2⟩ := ih
    refine ⟨?_, ?_, ?_⟩
    · intro a0 r h
      rw [l_toType] at h
      refine ac_fn mixed Try.func295 rfl rfl rfl (by kernel_rfl) (by kernel_rfl) ?_
      try simp only [go_sem, Nat.reduceEqDiff, reduceIte, Nat.reduceAdd, Nat.reduceMul, Nat.reduceLeDiff, Nat.reduceLT]
      obtain ⟨v5002, hv5002, h⟩ := bindE h
      refine call_i (ih1 _ _ hv5002) ?_
      try simp only [go_sem, Nat.reduceEqDiff, reduceIte, Nat.reduceAdd, Nat.reduceMul, Nat.reduceLeDiff, Nat.reduceLT]
      obtain rfl := Option.some.inj h
      simp only [go_sem, Nat.reduceEqDiff, reduceIte, Nat.reduceAdd, Nat.reduceMul, Nat.reduceLeDiff, Nat.reduceLT]
    · intro a0 r h
      rw [l_toTypeS] at h
      refine ac_fn mixed Try.func341 rfl rfl rfl (by kernel_rfl) (by kernel_rfl) ?_
      try simp only [go_sem, Nat.reduceEqDiff, reduceIte, Nat.reduceAdd, Nat.reduceMul, Nat.reduceLeDiff, Nat.reduceLT]
      obtain ⟨v2002, hv2002, h⟩ := bindE h
      obtain ⟨hv2002a, hv2002b, hv2002c⟩ := rep_some hv2002
      refine and_i (by refine ⟨?_, ?_, ?_⟩ <;> omega) ?_
      try simp only [go_sem, Nat.reduceEqDiff, reduceIte, Nat.reduceAdd, Nat.reduceMul, Nat.reduceLeDiff, Nat.reduceLT]
      refine row_i (List.map TType.ds v2002) (by rw [← hv2002c]; simp only [List.map_replicate, go_sem, TType.ds_eq]) ?_
      try simp only [go_sem, Nat.reduceEqDiff, reduceIte, Nat.reduceAdd, Nat.reduceMul, Nat.reduceLeDiff, Nat.reduceLT]
      have hj := posF_to rfl rfl (ih2 a0 v2002 0 _ h)
      refine loop_to hj (.one ⟨_, .done _, [(1000001000, 32032)], [], ?_⟩)
      clear hj
      try simp only [go_sem, Nat.reduceEqDiff, reduceIte, Nat.reduceAdd, Nat.reduceMul, Nat.reduceLeDiff, Nat.reduceLT]
    · intro a0 p1_0 p1_1 r h
      rw [l_toTypeS_l2] at h
      refine posF_of rfl rfl ?_
      try simp only [go_sem, Nat.reduceEqDiff, reduceIte, Nat.reduceAdd, Nat.reduceMul, Nat.reduceLeDiff, Nat.reduceLT]
      refine loop_i ?_
      try simp only [go_sem, Nat.reduceEqDiff, reduceIte, Nat.reduceAdd, Nat.reduceMul, Nat.reduceLeDiff, Nat.reduceLT]
      refine cond_i (fun hb1 => ?_) (fun hb1 => ?_)
      · replace h := ifT (c := (decide (p1_1 < ((List.length a0 : Nat) : Int)))) hb1 h
        try simp only [go_sem, Nat.reduceEqDiff, reduceIte, Nat.reduceAdd, Nat.reduceMul, Nat.reduceLeDiff, Nat.reduceLT]
        refine seq_go ?_
        try simp only [go_sem, Nat.reduceEqDiff, reduceIte, Nat.reduceAdd, Nat.reduceMul, Nat.reduceLeDiff, Nat.reduceLT]
        obtain ⟨v6004, hv6004, h⟩ := bindE h
        refine idx_m hv6004 (TType.ds_len _) ?_
        try simp only [go_sem, Nat.reduceEqDiff, reduceIte, Nat.reduceAdd, Nat.reduceMul, Nat.reduceLeDiff, Nat.reduceLT]
        obtain ⟨v6006, hv6006, h⟩ := bindE h
        refine call_i (ih0 _ _ hv6006) ?_
        try simp only [go_sem, Nat.reduceEqDiff, reduceIte, Nat.reduceAdd, Nat.reduceMul, Nat.reduceLeDiff, Nat.reduceLT]
        obtain ⟨v6007, hv6007, h⟩ := bindE h
        refine idx_m hv6007 (TType.ds_len _) ?_
        try simp only [go_sem, Nat.reduceEqDiff, reduceIte, Nat.reduceAdd, Nat.reduceMul, Nat.reduceLeDiff, Nat.reduceLT]
        obtain ⟨v6008_12, hv6008_12, h⟩ := bindE h
        refine opt_i (row_m hv6007) ?_
        try simp only [go_sem, Nat.reduceEqDiff, reduceIte, Nat.reduceAdd, Nat.reduceMul, Nat.reduceLeDiff, Nat.reduceLT]
        refine row_i (List.map TType.ds v6008_12) (by rw [← set1_some hv6008_12]; simp only [List.map_set, go_sem, TType.ds_eq]) ?_
        try simp only [go_sem, Nat.reduceEqDiff, reduceIte, Nat.reduceAdd, Nat.reduceMul, Nat.reduceLeDiff, Nat.reduceLT]
        refine seq_go ?_
        try simp only [go_sem, Nat.reduceEqDiff, reduceIte, Nat.reduceAdd, Nat.reduceMul, Nat.reduceLeDiff, Nat.reduceLT]
        have hj := posF_to rfl rfl (ih2 a0 v6008_12 (IntKind.i64.wrap (p1_1 + 1)) _ h)
        refine lp_to hj (.one ⟨_, .done _, [(1000001000, 1000001000)], [], ?_⟩)
        clear hj
        try simp only [go_sem, Nat.reduceEqDiff, reduceIte, Nat.reduceAdd, Nat.reduceMul, Nat.reduceLeDiff, Nat.reduceLT]
      · replace h := ifF (c := (decide (p1_1 < ((List.length a0 : Nat) : Int)))) hb1 h
        try simp only [go_sem, Nat.reduceEqDiff, reduceIte, Nat.reduceAdd, Nat.reduceMul, Nat.reduceLeDiff, Nat.reduceLT]
        refine seq_go ?_
        try simp only [go_sem, Nat.reduceEqDiff, reduceIte, Nat.reduceAdd, Nat.reduceMul, Nat.reduceLeDiff, Nat.reduceLT]
        obtain rfl := Option.some.inj h
        simp only [go_sem, Nat.reduceEqDiff, reduceIte, Nat.reduceAdd, Nat.reduceMul, Nat.reduceLeDiff, Nat.reduceLT]
theorem l_toType_ok (n : Nat) : (∀ (a0 : TType) (r : TType), l_toType n a0 = some r → AC Try.prog 295 [.agg (TType.avs a0)] (.agg (TType.rv r))) := (l_toType_all n).1
theorem l_toTypeS_ok (n : Nat) : (∀ (a0 : List TType) (r : (List TType)), l_toTypeS n a0 = some r → AC Try.prog 341 [.ro (List.map TType.ds a0)] (.ow (some 3) (List.map TType.ds r))) := (l_toType_all n).2.1
theorem l_toTypeS_l2_ok (n : Nat) : (∀ (a0 : List TType) (p1_0 : List TType) (p1_1 : Int) (r : (List TType)), l_toTypeS_l2 n a0 p1_0 p1_1 = some r → posF Try.prog Try.f341 [1, 1, 0, 1, 0] (.ow (some 3) (List.map TType.ds r)) ⟨[(0, .ro (List.map TType.ds a0)), (3, .own 1000001000), (4, .int .i64 p1_1)], [(1000001000, some ⟨List.map TType.ds p1_0, some 3, 0⟩)], []⟩) := (l_toType_all n).2.2

theorem l_toConstructor_ok (a0 : Constructor) (r : Constructor) (h : l_toConstructor a0 = some r) : AC Try.prog 340 [.agg (Constructor.avs a0)] (.agg (Constructor.rv r)) := by
  unfold l_toConstructor at h
  refine ac_fn mixed Try.func340 rfl rfl rfl (by kernel_rfl) (by kernel_rfl) ?_
  try simp only [go_sem, Nat.reduceEqDiff, reduceIte, Nat.reduceAdd, Nat.reduceMul, Nat.reduceLeDiff, Nat.reduceLT]
  obtain ⟨v4002, hv4002, h⟩ := bindE h
  refine call_i (l_toTypeS_ok fuel _ _ hv4002) ?_
  try simp only [go_sem, Nat.reduceEqDiff, reduceIte, Nat.reduceAdd, Nat.reduceMul, Nat.reduceLeDiff, Nat.reduceLT]
  obtain rfl := Option.some.inj h
  simp only [go_sem, Nat.reduceEqDiff, reduceIte, Nat.reduceAdd, Nat.reduceMul, Nat.reduceLeDiff, Nat.reduceLT]
theorem l_toConstructorS_l2_all (n : Nat) : (∀ (a0 : List Constructor) (p1_0 : List Constructor) (p1_1 : Int) (r : (List Constructor)), l_toConstructorS_l2 n a0 p1_0 p1_1 = some r → posF Try.prog Try.f294 [1, 1, 0, 1, 0] (.ow (some 2) (List.map Constructor.ds r)) ⟨[(0, .ro (List.map Constructor.ds a0)), (3, .own 1000001000), (4, .int .i64 p1_1)], [(1000001000, some ⟨List.map Constructor.ds p1_0, some 2, 0⟩)], []⟩) := by
  induction n with
  | zero => exact ((fun _ _ _ _ h => by rw [l_toConstructorS_l2] at h; cases h))
  | succ n ih =>
    have ih0 := ih
    · intro a0 p1_0 p1_1 r h
      rw [l_toConstructorS_l2] at h
      refine posF_of rfl rfl ?_
      try simp only [go_sem, Nat.reduceEqDiff, reduceIte, Nat.reduceAdd, Nat.reduceMul, Nat.reduceLeDiff, Nat.reduceLT]
      refine loop_i ?_
      try simp only [go_sem, Nat.reduceEqDiff, reduceIte, Nat.reduceAdd, Nat.reduceMul, Nat.reduceLeDiff, Nat.reduceLT]
      refine cond_i (fun hb1 => ?_) (fun hb1 => ?_)
      · replace h := ifT (c := (decide (p1_1 < ((List.length a0 : Nat) : Int)))) hb1 h
        try simp only [go_sem, Nat.reduceEqDiff, reduceIte, Nat.reduceAdd, Nat.reduceMul, Nat.reduceLeDiff, Nat.reduceLT]
        refine seq_go ?_
        try simp only [go_sem, Nat.reduceEqDiff, reduceIte, Nat.reduceAdd, Nat.reduceMul, Nat.reduceLeDiff, Nat.reduceLT]
        obtain ⟨v6004, hv6004, h⟩ := bindE h
        refine idx_m hv6004 (Constructor.ds_len _) ?_
        try simp only [go_sem, Nat.reduceEqDiff, reduceIte, Nat.reduceAdd, Nat.reduceMul, Nat.reduceLeDiff, Nat.reduceLT]
        obtain ⟨v6006, hv6006, h⟩ := bindE h
        refine call_i (l_toConstructor_ok _ _ hv6006) ?_
        try simp only [go_sem, Nat.reduceEqDiff, reduceIte, Nat.reduceAdd, Nat.reduceMul, Nat.reduceLeDiff, Nat.reduceLT]
        obtain ⟨v6007, hv6007, h⟩ := bindE h
        refine idx_m hv6007 (Constructor.ds_len _) ?_
        try simp only [go_sem, Nat.reduceEqDiff, reduceIte, Nat.reduceAdd, Nat.reduceMul, Nat.reduceLeDiff, Nat.reduceLT]
        obtain ⟨v6008_12, hv6008_12, h⟩ := bindE h
        refine opt_i (row_m hv6007) ?_
        try simp only [go_sem, Nat.reduceEqDiff, reduceIte, Nat.reduceAdd, Nat.reduceMul, Nat.reduceLeDiff, Nat.reduceLT]
        refine row_i (List.map Constructor.ds v6008_12) (by rw [← set1_some hv6008_12]; simp only [List.map_set, go_sem, Constructor.ds_eq]) ?_
        try simp only [go_sem, Nat.reduceEqDiff, reduceIte, Nat.reduceAdd, Nat.reduceMul, Nat.reduceLeDiff, Nat.reduceLT]
        refine seq_go ?_
        try simp only [go_sem, Nat.reduceEqDiff, reduceIte, Nat.reduceAdd, Nat.reduceMul, Nat.reduceLeDiff, Nat.reduceLT]
        have hj := posF_to rfl rfl (ih0 a0 v6008_12 (IntKind.i64.wrap (p1_1 + 1)) _ h)
        refine lp_to hj (.one ⟨_, .done _, [(1000001000, 1000001000)], [], ?_⟩)
        clear hj
        try simp only [go_sem, Nat.reduceEqDiff, reduceIte, Nat.reduceAdd, Nat.reduceMul, Nat.reduceLeDiff, Nat.reduceLT]
      · replace h := ifF (c := (decide (p1_1 < ((List.length a0 : Nat) : Int)))) hb1 h
        try simp only [go_sem, Nat.reduceEqDiff, reduceIte, Nat.reduceAdd, Nat.reduceMul, Nat.reduceLeDiff, Nat.reduceLT]
        refine seq_go ?_
        try simp only [go_sem, Nat.reduceEqDiff, reduceIte, Nat.reduceAdd, Nat.reduceMul, Nat.reduceLeDiff, Nat.reduceLT]
        obtain rfl := Option.some.inj h
        simp only [go_sem, Nat.reduceEqDiff, reduceIte, Nat.reduceAdd, Nat.reduceMul, Nat.reduceLeDiff, Nat.reduceLT]
theorem l_toConstructorS_l2_ok (n : Nat) : (∀ (a0 : List Constructor) (p1_0 : List Constructor) (p1_1 : Int) (r : (List Constructor)), l_toConstructorS_l2 n a0 p1_0 p1_1 = some r → posF Try.prog Try.f294 [1, 1, 0, 1, 0] (.ow (some 2) (List.map Constructor.ds r)) ⟨[(0, .ro (List.map Constructor.ds a0)), (3, .own 1000001000), (4, .int .i64 p1_1)], [(1000001000, some ⟨List.map Constructor.ds p1_0, some 2, 0⟩)], []⟩) := (l_toConstructorS_l2_all n)

theorem l_toConstructorS_ok (a0 : List Constructor) (r : (List Constructor)) (h : l_toConstructorS a0 = some r) : AC Try.prog 294 [.ro (List.map Constructor.ds a0)] (.ow (some 2) (List.map Constructor.ds r)) := by
  unfold l_toConstructorS at h
  refine ac_fn mixed Try.func294 rfl rfl rfl (by kernel_rfl) (by kernel_rfl) ?_
  try simp only [go_sem, Nat.reduceEqDiff, reduceIte, Nat.reduceAdd, Nat.reduceMul, Nat.reduceLeDiff, Nat.reduceLT]
  obtain ⟨v2002, hv2002, h⟩ := bindE h
  obtain ⟨hv2002a, hv2002b, hv2002c⟩ := rep_some hv2002
  refine and_i (by refine ⟨?_, ?_, ?_⟩ <;> omega) ?_
  try simp only [go_sem, Nat.reduceEqDiff, reduceIte, Nat.reduceAdd, Nat.reduceMul, Nat.reduceLeDiff, Nat.reduceLT]
  refine row_i (List.map Constructor.ds v2002) (by rw [← hv2002c]; simp only [List.map_replicate, go_sem, Constructor.ds_eq]) ?_
  try simp only [go_sem, Nat.reduceEqDiff, reduceIte, Nat.reduceAdd, Nat.reduceMul, Nat.reduceLeDiff, Nat.reduceLT]
  have hj := posF_to rfl rfl (l_toConstructorS_l2_ok fuel a0 v2002 0 _ h)
  refine loop_to hj (.one ⟨_, .done _, [(1000001000, 32032)], [], ?_⟩)
  clear hj
  try simp only [go_sem, Nat.reduceEqDiff, reduceIte, Nat.reduceAdd, Nat.reduceMul, Nat.reduceLeDiff, Nat.reduceLT]
theorem l_toData_ok (a0 : Data) (r : Data) (h : l_toData a0 = some r) : AC Try.prog 235 [.agg (Data.avs a0)] (.agg (Data.rv r)) := by
  unfold l_toData at h
  refine ac_fn mixed Try.func235 rfl rfl rfl (by kernel_rfl) (by kernel_rfl) ?_
  try simp only [go_sem, Nat.reduceEqDiff, reduceIte, Nat.reduceAdd, Nat.reduceMul, Nat.reduceLeDiff, Nat.reduceLT]
  obtain ⟨v4002, hv4002, h⟩ := bindE h
  refine call_i (l_toConstructorS_ok _ _ hv4002) ?_
  try simp only [go_sem, Nat.reduceEqDiff, reduceIte, Nat.reduceAdd, Nat.reduceMul, Nat.reduceLeDiff, Nat.reduceLT]
  obtain rfl := Option.some.inj h
  simp only [go_sem, Nat.reduceEqDiff, reduceIte, Nat.reduceAdd, Nat.reduceMul, Nat.reduceLeDiff, Nat.reduceLT]
theorem l_toDataS_l2_all (n : Nat) : (∀ (a0 : List Data) (p1_0 : List Data) (p1_1 : Int) (r : (List Data)), l_toDataS_l2 n a0 p1_0 p1_1 = some r → posF Try.prog Try.f163 [1, 1, 0, 1, 0] (.ow (some 2) (List.map Data.ds r)) ⟨[(0, .ro (List.map Data.ds a0)), (3, .own 1000001000), (4, .int .i64 p1_1)], [(1000001000, some ⟨List.map Data.ds p1_0, some 2, 0⟩)], []⟩) := by
  induction n with
  | zero => exact ((fun _ _ _ _ h => by rw [l_toDataS_l2] at h; cases h))
  | succ n ih =>
    have ih0 := ih
    · intro a0 p1_0 p1_1 r h
      rw [l_toDataS_l2] at h
      refine posF_of rfl rfl ?_
      try simp only [go_sem, Nat.reduceEqDiff, reduceIte, Nat.reduceAdd, Nat.reduceMul, Nat.reduceLeDiff, Nat.reduceLT]
      refine loop_i ?_
      try simp only [go_sem, Nat.reduceEqDiff, reduceIte, Nat.reduceAdd, Nat.reduceMul, Nat.reduceLeDiff, Nat.reduceLT]
      refine cond_i (fun hb1 => ?_) (fun hb1 => ?_)
      · replace h := ifT (c := (decide (p1_1 < ((List.length a0 : Nat) : Int)))) hb1 h
        try simp only [go_sem, Nat.reduceEqDiff, reduceIte, Nat.reduceAdd, Nat.reduceMul, Nat.reduceLeDiff, Nat.reduceLT]
        refine seq_go ?_
        try simp only [go_sem, Nat.reduceEqDiff, reduceIte, Nat.reduceAdd, Nat.reduceMul, Nat.reduceLeDiff, Nat.reduceLT]
        obtain ⟨v6004, hv6004, h⟩ := bindE h
        refine idx_m hv6004 (Data.ds_len _) ?_
        try simp only [go_sem, Nat.reduceEqDiff, reduceIte, Nat.reduceAdd, Nat.reduceMul, Nat.reduceLeDiff, Nat.reduceLT]
        obtain ⟨v6006, hv6006, h⟩ := bindE h
        refine call_i (l_toData_ok _ _ hv6006) ?_
        try simp only [go_sem, Nat.reduceEqDiff, reduceIte, Nat.reduceAdd, Nat.reduceMul, Nat.reduceLeDiff, Nat.reduceLT]
        obtain ⟨v6007, hv6007, h⟩ := bindE h
        refine idx_m hv6007 (Data.ds_len _) ?_
        try simp only [go_sem, Nat.reduceEqDiff, reduceIte, Nat.reduceAdd, Nat.reduceMul, Nat.reduceLeDiff, Nat.reduceLT]
        obtain ⟨v6008_12, hv6008_12, h⟩ := bindE h
        refine opt_i (row_m hv6007) ?_
        try simp only [go_sem, Nat.reduceEqDiff, reduceIte, Nat.reduceAdd, Nat.reduceMul, Nat.reduceLeDiff, Nat.reduceLT]
        refine row_i (List.map Data.ds v6008_12) (by rw [← set1_some hv6008_12]; simp only [List.map_set, go_sem, Data.ds_eq]) ?_
        try simp only [go_sem, Nat.reduceEqDiff, reduceIte, Nat.reduceAdd, Nat.reduceMul, Nat.reduceLeDiff, Nat.reduceLT]
        refine seq_go ?_
        try simp only [go_sem, Nat.reduceEqDiff, reduceIte, Nat.reduceAdd, Nat.reduceMul, Nat.reduceLeDiff, Nat.reduceLT]
        have hj := posF_to rfl rfl (ih0 a0 v6008_12 (IntKind.i64.wrap (p1_1 + 1)) _ h)
        refine lp_to hj (.one ⟨_, .done _, [(1000001000, 1000001000)], [], ?_⟩)
        clear hj
        try simp only [go_sem, Nat.reduceEqDiff, reduceIte, Nat.reduceAdd, Nat.reduceMul, Nat.reduceLeDiff, Nat.reduceLT]
      · replace h := ifF (c := (decide (p1_1 < ((List.length a0 : Nat) : Int)))) hb1 h
        try simp only [go_sem, Nat.reduceEqDiff, reduceIte, Nat.reduceAdd, Nat.reduceMul, Nat.reduceLeDiff, Nat.reduceLT]
        refine seq_go ?_
        try simp only [go_sem, Nat.reduceEqDiff, reduceIte, Nat.reduceAdd, Nat.reduceMul, Nat.reduceLeDiff, Nat.reduceLT]
        obtain rfl := Option.some.inj h
        simp only [go_sem, Nat.reduceEqDiff, reduceIte, Nat.reduceAdd, Nat.reduceMul, Nat.reduceLeDiff, Nat.reduceLT]
theorem l_toDataS_l2_ok (n : Nat) : (∀ (a0 : List Data) (p1_0 : List Data) (p1_1 : Int) (r : (List Data)), l_toDataS_l2 n a0 p1_0 p1_1 = some r → posF Try.prog Try.f163 [1, 1, 0, 1, 0] (.ow (some 2) (List.map Data.ds r)) ⟨[(0, .ro (List.map Data.ds a0)), (3, .own 1000001000), (4, .int .i64 p1_1)], [(1000001000, some ⟨List.map Data.ds p1_0, some 2, 0⟩)], []⟩) := (l_toDataS_l2_all n)

theorem l_toDataS_ok (a0 : List Data) (r : (List Data)) (h : l_toDataS a0 = some r) : AC Try.prog 163 [.ro (List.map Data.ds a0)] (.ow (some 2) (List.map Data.ds r)) := by
  unfold l_toDataS at h
  refine ac_fn mixed Try.func163 rfl rfl rfl (by kernel_rfl) (by kernel_rfl) ?_
  try simp only [go_sem, Nat.reduceEqDiff, reduceIte, Nat.reduceAdd, Nat.reduceMul, Nat.reduceLeDiff, Nat.reduceLT]
  obtain ⟨v2002, hv2002, h⟩ := bindE h
  obtain ⟨hv2002a, hv2002b, hv2002c⟩ := rep_some hv2002
  refine and_i (by refine ⟨?_, ?_, ?_⟩ <;> omega) ?_
  try simp only [go_sem, Nat.reduceEqDiff, reduceIte, Nat.reduceAdd, Nat.reduceMul, Nat.reduceLeDiff, Nat.reduceLT]
  refine row_i (List.map Data.ds v2002) (by rw [← hv2002c]; simp only [List.map_replicate, go_sem, Data.ds_eq]) ?_
  try simp only [go_sem, Nat.reduceEqDiff, reduceIte, Nat.reduceAdd, Nat.reduceMul, Nat.reduceLeDiff, Nat.reduceLT]
  have hj := posF_to rfl rfl (l_toDataS_l2_ok fuel a0 v2002 0 _ h)
  refine loop_to hj (.one ⟨_, .done _, [(1000001000, 32032)], [], ?_⟩)
  clear hj
  try simp only [go_sem, Nat.reduceEqDiff, reduceIte, Nat.reduceAdd, Nat.reduceMul, Nat.reduceLeDiff, Nat.reduceLT]
theorem l_toTermS_all (n : Nat) : (∀ (a0 : List Term) (r : (List Term)), l_toTermS n a0 = some r → AC Try.prog 343 [.ro (List.map Term.ds a0)] (.ow (some 8) (List.map Term.ds r))) ∧
    (∀ (a0 : List Term) (p1_0 : List Term) (p1_1 : Int) (r : (List Term)), l_toTermS_l2 n a0 p1_0 p1_1 = some r → posF Try.prog Try.f343 [1, 1, 0, 1, 0] (.ow (some 8) (List.map Term.ds r)) ⟨[(0, .ro (List.map Term.ds a0)), (3, .own 1000001000), (4, .int .i64 p1_1)], [(1000001000, some ⟨List.map Term.ds p1_0, some 8, 0⟩)], []⟩) ∧
    (∀ (a0 : Term) (r : Term), l_toTerm n a0 = some r → AC Try.prog 296 [.agg (Term.avs a0)] (.agg (Term.rv r))) := by
  induction n with
  | zero => exact ⟨(fun _ _ h => by rw [l_toTermS] at h; cases h), (fun _ _ _ _ h => by rw [l_toTermS_l2] at h; cases h), (fun _ _ h => by rw [l_toTerm] at h; cases h)⟩
  | succ n ih =>
    obtain ⟨ih0, ih1, ih2⟩ := ih
    refine ⟨?_, ?_, ?_⟩
    · intro a0 r h
      rw [l_toTermS] at h
      refine ac_fn mixed Try.func343 rfl rfl rfl (by kernel_rfl) (by kernel_rfl) ?_
      try simp only [go_sem, Nat.reduceEqDiff, reduceIte, Nat.reduceAdd, Nat.reduceMul, Nat.reduceLeDiff, Nat.reduceLT]
      obtain ⟨v2002, hv2002, h⟩ := bindE h
      obtain ⟨hv2002a, hv2002b, hv2002c⟩ := rep_some hv2002
      refine and_i (by refine ⟨?_, ?_, ?_⟩ <;> omega) ?_
      try simp only [go_sem, Nat.reduceEqDiff, reduceIte, Nat.reduceAdd, Nat.reduceMul, Nat.reduceLeDiff, Nat.reduceLT]
      refine row_i (List.map Term.ds v2002) (by rw [← hv2002c]; simp only [List.map_replicate, go_sem, Term.ds_eq]) ?_
      try simp only [go_sem, Nat.reduceEqDiff, reduceIte, Nat.reduceAdd, Nat.reduceMul, Nat.reduceLeDiff, Nat.reduceLT]
      have hj := posF_to rfl rfl (ih1 a0 v2002 0 _ h)
      refine loop_to hj (.one ⟨_, .done _, [(1000001000, 32032)], [], ?_⟩)
      clear hj
      try simp only [go_sem, Nat.reduceEqDiff, reduceIte, Nat.reduceAdd, Nat.reduceMul, Nat.reduceLeDiff, Nat.reduceLT]
    · intro a0 p1_0 p1_1 r h
      rw [l_toTermS_l2] at h
      refine posF_of rfl rfl ?_
      try simp only [go_sem, Nat.reduceEqDiff, reduceIte, Nat.reduceAdd, Nat.reduceMul, Nat.reduceLeDiff, Nat.reduceLT]
      refine loop_i ?_
      try simp only [go_sem, Nat.reduceEqDiff, reduceIte, Nat.reduceAdd, Nat.reduceMul, Nat.reduceLeDiff, Nat.reduceLT]
      refine cond_i (fun hb1 => ?_) (fun hb1 => ?_)
      · replace h := ifT (c := (decide (p1_1 < ((List.length a0 : Nat) : Int)))) hb1 h
        try simp only [go_sem, Nat.reduceEqDiff, reduceIte, Nat.reduceAdd, Nat.reduceMul, Nat.reduceLeDiff, Nat.reduceLT]
        refine seq_go ?_
        try simp only [go_sem, Nat.reduceEqDiff, reduceIte, Nat.reduceAdd, Nat.reduceMul, Nat.reduceLeDiff, Nat.reduceLT]
        obtain ⟨v6004, hv6004, h⟩ := bindE h
        refine idx_m hv6004 (Term.ds_len _) ?_
        try simp only [go_sem, Nat.reduceEqDiff, reduceIte, Nat.reduceAdd, Nat.reduceMul, Nat.reduceLeDiff, Nat.reduceLT]
        obtain ⟨v6006, hv6006, h⟩ := bindE h
        refine call_i (ih2 _ _ hv6006) ?_
        try simp only [go_sem, Nat.reduceEqDiff, reduceIte, Nat.reduceAdd, Nat.reduceMul, Nat.reduceLeDiff, Nat.reduceLT]
        obtain ⟨v6007, hv6007, h⟩ := bindE h
        refine idx_m hv6007 (Term.ds_len _) ?_
        try simp only [go_sem, Nat.reduceEqDiff, reduceIte, Nat.reduceAdd, Nat.reduceMul, Nat.reduceLeDiff, Nat.reduceLT]
        obtain ⟨v6008_12, hv6008_12, h⟩ := bindE h
        refine opt_i (row_m hv6007) ?_
        try simp only [go_sem, Nat.reduceEqDiff, reduceIte, Nat.reduceAdd, Nat.reduceMul, Nat.reduceLeDiff, Nat.reduceLT]
        refine row_i (List.map Term.ds v6008_12) (by rw [← set1_some hv6008_12]; simp only [List.map_set, go_sem, Term.ds_eq]) ?_
        try simp only [go_sem, Nat.reduceEqDiff, reduceIte, Nat.reduceAdd, Nat.reduceMul, Nat.reduceLeDiff, Nat.reduceLT]
        refine seq_go ?_
        try simp only [go_sem, Nat.reduceEqDiff, reduceIte, Nat.reduceAdd, Nat.reduceMul, Nat.reduceLeDiff, Nat.reduceLT]
        have hj := posF_to rfl rfl (ih1 a0 v6008_12 (IntKind.i64.wrap (p1_1 + 1)) _ h)
        refine lp_to hj (.one ⟨_, .done _, [(1000001000, 1000001000)], [], ?_⟩)
        clear hj
        try simp only [go_sem, Nat.reduceEqDiff, reduceIte, Nat.reduceAdd, Nat.reduceMul, Nat.reduceLeDiff, Nat.reduceLT]
      · replace h := ifF (c := (decide (p1_1 < ((List.length a0 : Nat) : Int)))) hb1 h
        try simp only [go_sem, Nat.reduceEqDiff, reduceIte, Nat.reduceAdd, Nat.reduceMul, Nat.reduceLeDiff, Nat.reduceLT]
        refine seq_go ?_
        try simp only [go_sem, Nat.reduceEqDiff, reduceIte, Nat.reduceAdd, Nat.reduceMul, Nat.reduceLeDiff, Nat.reduceLT]
        obtain rfl := Option.some.inj h
        simp only [go_sem, Nat.reduceEqDiff, reduceIte, Nat.reduceAdd, Nat.reduceMul, Nat.reduceLeDiff, Nat.reduceLT]
    · intro a0 r h
      rw [l_toTerm] at h
      refine ac_fn mixed Try.func296 rfl rfl rfl (by kernel_rfl) (by kernel_rfl) ?_
      try simp only [go_sem, Nat.reduceEqDiff, reduceIte, Nat.reduceAdd, Nat.reduceMul, Nat.reduceLeDiff, Nat.reduceLT]
      obtain ⟨v6002, hv6002, h⟩ := bindE h
      refine call_i (l_toType_ok fuel _ _ hv6002) ?_
      try simp only [go_sem, Nat.reduceEqDiff, reduceIte, Nat.reduceAdd, Nat.reduceMul, Nat.reduceLeDiff, Nat.reduceLT]
      obtain ⟨v7002, hv7002, h⟩ := bindE h
      refine call_i (l_toStringS_ok _ _ hv7002) ?_
      try simp only [go_sem, Nat.reduceEqDiff, reduceIte, Nat.reduceAdd, Nat.reduceMul, Nat.reduceLeDiff, Nat.reduceLT]
      obtain ⟨v8002, hv8002, h⟩ := bindE h
      refine call_i (ih0 _ _ hv8002) ?_
      try simp only [go_sem, Nat.reduceEqDiff, reduceIte, Nat.reduceAdd, Nat.reduceMul, Nat.reduceLeDiff, Nat.reduceLT]
      obtain rfl := Option.some.inj h
      simp only [go_sem, Nat.reduceEqDiff, reduceIte, Nat.reduceAdd, Nat.reduceMul, Nat.reduceLeDiff, Nat.reduceLT]
theorem l_toTermS_ok (n : Nat) : (∀ (a0 : List Term) (r : (List Term)), l_toTermS n a0 = some r → AC Try.prog 343 [.ro (List.map Term.ds a0)] (.ow (some 8) (List.map Term.ds r))) := (l_toTermS_all n).1
theorem l_toTermS_l2_ok (n : Nat) : (∀ (a0 : List Term) (p1_0 : List Term) (p1_1 : Int) (r : (List Term)), l_toTermS_l2 n a0 p1_0 p1_1 = some r → posF Try.prog Try.f343 [1, 1, 0, 1, 0] (.ow (some 8) (List.map Term.ds r)) ⟨[(0, .ro (List.map Term.ds a0)), (3, .own 1000001000), (4, .int .i64 p1_1)], [(1000001000, some ⟨List.map Term.ds p1_0, some 8, 0⟩)], []⟩) := (l_toTermS_all n).2.1
theorem l_toTerm_ok (n : Nat) : (∀ (a0 : Term) (r : Term), l_toTerm n a0 = some r → AC Try.prog 296 [.agg (Term.avs a0)] (.agg (Term.rv r))) := (l_toTermS_all n).2.2

theorem l_toDef_ok (a0 : Def) (r : Def) (h : l_toDef a0 = some r) : AC Try.prog 236 [.agg (Def.avs a0)] (.agg (Def.rv r)) := by
  unfold l_toDef at h
  refine ac_fn mixed Try.func236 rfl rfl rfl (by kernel_rfl) (by kernel_rfl) ?_
  try simp only [go_sem, Nat.reduceEqDiff, reduceIte, Nat.reduceAdd, Nat.reduceMul, Nat.reduceLeDiff, Nat.reduceLT]
  obtain ⟨v4002, hv4002, h⟩ := bindE h
  refine call_i (l_toType_ok fuel _ _ hv4002) ?_
  try simp only [go_sem, Nat.reduceEqDiff, reduceIte, Nat.reduceAdd, Nat.reduceMul, Nat.reduceLeDiff, Nat.reduceLT]
  obtain ⟨v5002, hv5002, h⟩ := bindE h
  refine call_i (l_toTerm_ok fuel _ _ hv5002) ?_
  try simp only [go_sem, Nat.reduceEqDiff, reduceIte, Nat.reduceAdd, Nat.reduceMul, Nat.reduceLeDiff, Nat.reduceLT]
  obtain rfl := Option.some.inj h
  simp only [go_sem, Nat.reduceEqDiff, reduceIte, Nat.reduceAdd, Nat.reduceMul, Nat.reduceLeDiff, Nat.reduceLT]
theorem l_toDefS_l2_all (n : Nat) : (∀ (a0 : List Def) (p1_0 : List Def) (p1_1 : Int) (r : (List Def)), l_toDefS_l2 n a0 p1_0 p1_1 = some r → posF Try.prog Try.f164 [1, 1, 0, 1, 0] (.ow (some 12) (List.map Def.ds r)) ⟨[(0, .ro (List.map Def.ds a0)), (3, .own 1000001000), (4, .int .i64 p1_1)], [(1000001000, some ⟨List.map Def.ds p1_0, some 12, 0⟩)], []⟩) := by
  induction n with
  | zero => exact ((fun _ _ _ _ h => by rw [l_toDefS_l2] at h; cases h))
  | succ n ih =>
    have ih0 := ih
    · intro a0 p1_0 p1_1 r h
      rw [l_toDefS_l2] at h
      refine posF_of rfl rfl ?_
      try simp only [go_sem, Nat.reduceEqDiff, reduceIte, Nat.reduceAdd, Nat.reduceMul, Nat.reduceLeDiff, Nat.reduceLT]
      refine loop_i ?_
      try simp only [go_sem, Nat.reduceEqDiff, reduceIte, Nat.reduceAdd, Nat.reduceMul, Nat.reduceLeDiff, Nat.reduceLT]
      refine cond_i (fun hb1 => ?_) (fun hb1 => ?_)
      · replace h := ifT (c := (decide (p1_1 < ((List.length a0 : Nat) : Int)))) hb1 h
        try simp only [go_sem, Nat.reduceEqDiff, reduceIte, Nat.reduceAdd, Nat.reduceMul, Nat.reduceLeDiff, Nat.reduceLT]
        refine seq_go ?_
        try simp only [go_sem, Nat.reduceEqDiff, reduceIte, Nat.reduceAdd, Nat.reduceMul, Nat.reduceLeDiff, Nat.reduceLT]
        obtain ⟨v6004, hv6004, h⟩ := bindE h
        refine idx_m hv6004 (Def.ds_len _) ?_
        try simp only [go_sem, Nat.reduceEqDiff, reduceIte, Nat.reduceAdd, Nat.reduceMul, Nat.reduceLeDiff, Nat.reduceLT]
        obtain ⟨v6006, hv6006, h⟩ := bindE h
        refine call_i (l_toDef_ok _ _ hv6006) ?_
        try simp only [go_sem, Nat.reduceEqDiff, reduceIte, Nat.reduceAdd, Nat.reduceMul, Nat.reduceLeDiff, Nat.reduceLT]
        obtain ⟨v6007, hv6007, h⟩ := bindE h
        refine idx_m hv6007 (Def.ds_len _) ?_
        try simp only [go_sem, Nat.reduceEqDiff, reduceIte, Nat.reduceAdd, Nat.reduceMul, Nat.reduceLeDiff, Nat.reduceLT]
        obtain ⟨v6008_12, hv6008_12, h⟩ := bindE h
        refine opt_i (row_m hv6007) ?_
        try simp only [go_sem, Nat.reduceEqDiff, reduceIte, Nat.reduceAdd, Nat.reduceMul, Nat.reduceLeDiff, Nat.reduceLT]
        refine row_i (List.map Def.ds v6008_12) (by rw [← set1_some hv6008_12]; simp only [List.map_set, go_sem, Def.ds_eq]) ?_
        try simp only [go_sem, Nat.reduceEqDiff, reduceIte, Nat.reduceAdd, Nat.reduceMul, Nat.reduceLeDiff, Nat.reduceLT]
        refine seq_go ?_
        try simp only [go_sem, Nat.reduceEqDiff, reduceIte, Nat.reduceAdd, Nat.reduceMul, Nat.reduceLeDiff, Nat.reduceLT]
        have hj := posF_to rfl rfl (ih0 a0 v6008_12 (IntKind.i64.wrap (p1_1 + 1)) _ h)
        refine lp_to hj (.one ⟨_, .done _, [(1000001000, 1000001000)], [], ?_⟩)
        clear hj
        try simp only [go_sem, Nat.reduceEqDiff, reduceIte, Nat.reduceAdd, Nat.reduceMul, Nat.reduceLeDiff, Nat.reduceLT]
      · replace h := ifF (c := (decide (p1_1 < ((List.length a0 : Nat) : Int)))) hb1 h
        try simp only [go_sem, Nat.reduceEqDiff, reduceIte, Nat.reduceAdd, Nat.reduceMul, Nat.reduceLeDiff, Nat.reduceLT]
        refine seq_go ?_
        try simp only [go_sem, Nat.reduceEqDiff, reduceIte, Nat.reduceAdd, Nat.reduceMul, Nat.reduceLeDiff, Nat.reduceLT]
        obtain rfl := Option.some.inj h
        simp only [go_sem, Nat.reduceEqDiff, reduceIte, Nat.reduceAdd, Nat.reduceMul, Nat.reduceLeDiff, Nat.reduceLT]
theorem l_toDefS_l2_ok (n : Nat) : (∀ (a0 : List Def) (p1_0 : List Def) (p1_1 : Int) (r : (List Def)), l_toDefS_l2 n a0 p1_0 p1_1 = some r → posF Try.prog Try.f164 [1, 1, 0, 1, 0] (.ow (some 12) (List.map Def.ds r)) ⟨[(0, .ro (List.map Def.ds a0)), (3, .own 1000001000), (4, .int .i64 p1_1)], [(1000001000, some ⟨List.map Def.ds p1_0, some 12, 0⟩)], []⟩) := (l_toDefS_l2_all n)

theorem l_toDefS_ok (a0 : List Def) (r : (List Def)) (h : l_toDefS a0 = some r) : AC Try.prog 164 [.ro (List.map Def.ds a0)] (.ow (some 12) (List.map Def.ds r)) := by
  unfold l_toDefS at h
  refine ac_fn mixed Try.func164 rfl rfl rfl (by kernel_rfl) (by kernel_rfl) ?_
  try simp only [go_sem, Nat.reduceEqDiff, reduceIte, Nat.reduceAdd, Nat.reduceMul, Nat.reduceLeDiff, Nat.reduceLT]
  obtain ⟨v2002, hv2002, h⟩ := bindE h
  obtain ⟨hv2002a, hv2002b, hv2002c⟩ := rep_some hv2002
  refine and_i (by refine ⟨?_, ?_, ?_⟩ <;> omega) ?_
  try simp only [go_sem, Nat.reduceEqDiff, reduceIte, Nat.reduceAdd, Nat.reduceMul, Nat.reduceLeDiff, Nat.reduceLT]
  refine row_i (List.map Def.ds v2002) (by rw [← hv2002c]; simp only [List.map_replicate, go_sem, Def.ds_eq]) ?_
  try simp only [go_sem, Nat.reduceEqDiff, reduceIte, Nat.reduceAdd, Nat.reduceMul, Nat.reduceLeDiff, Nat.reduceLT]
  have hj := posF_to rfl rfl (l_toDefS_l2_ok fuel a0 v2002 0 _ h)
  refine loop_to hj (.one ⟨_, .done _, [(1000001000, 32032)], [], ?_⟩)
  clear hj
  try simp only [go_sem, Nat.reduceEqDiff, reduceIte, Nat.reduceAdd, Nat.reduceMul, Nat.reduceLeDiff, Nat.reduceLT]
theorem l_toProgram_ok (a0 : TProgram) (r : TProgram) (h : l_toProgram a0 = some r) : AC Try.prog 91 [.agg (TProgram.avs a0)] (.agg (TProgram.rv r)) := by
  unfold l_toProgram at h
  refine ac_fn mixed Try.func91 rfl rfl rfl (by kernel_rfl) (by kernel_rfl) ?_
  try simp only [go_sem, Nat.reduceEqDiff, reduceIte, Nat.reduceAdd, Nat.reduceMul, Nat.reduceLeDiff, Nat.reduceLT]
  obtain ⟨v3002, hv3002, h⟩ := bindE h
  refine call_i (l_toDataS_ok _ _ hv3002) ?_
  try simp only [go_sem, Nat.reduceEqDiff, reduceIte, Nat.reduceAdd, Nat.reduceMul, Nat.reduceLeDiff, Nat.reduceLT]
  obtain ⟨v4002, hv4002, h⟩ := bindE h
  refine call_i (l_toDefS_ok _ _ hv4002) ?_
  try simp only [go_sem, Nat.reduceEqDiff, reduceIte, Nat.reduceAdd, Nat.reduceMul, Nat.reduceLeDiff, Nat.reduceLT]
  obtain rfl := Option.some.inj h
  simp only [go_sem, Nat.reduceEqDiff, reduceIte, Nat.reduceAdd, Nat.reduceMul, Nat.reduceLeDiff, Nat.reduceLT]
theorem l_toDesk_ok (a0 : Desk) (r : Desk) (h : l_toDesk a0 = some r) : AC Try.prog 33 [.agg (Desk.avs a0)] (.agg (Desk.rv r)) := by
  unfold l_toDesk at h
  refine ac_fn mixed Try.func33 rfl rfl rfl (by kernel_rfl) (by kernel_rfl) ?_
  try simp only [go_sem, Nat.reduceEqDiff, reduceIte, Nat.reduceAdd, Nat.reduceMul, Nat.reduceLeDiff, Nat.reduceLT]
  obtain ⟨v4002, hv4002, h⟩ := bindE h
  refine call_i (l_toProgram_ok _ _ hv4002) ?_
  try simp only [go_sem, Nat.reduceEqDiff, reduceIte, Nat.reduceAdd, Nat.reduceMul, Nat.reduceLeDiff, Nat.reduceLT]
  obtain ⟨v5002, hv5002, h⟩ := bindE h
  refine call_i (l_toInt64S_ok _ _ hv5002) ?_
  try simp only [go_sem, Nat.reduceEqDiff, reduceIte, Nat.reduceAdd, Nat.reduceMul, Nat.reduceLeDiff, Nat.reduceLT]
  obtain rfl := Option.some.inj h
  simp only [go_sem, Nat.reduceEqDiff, reduceIte, Nat.reduceAdd, Nat.reduceMul, Nat.reduceLeDiff, Nat.reduceLT]
theorem g_EqualFunc_simpl_Data_l1_all (n : Nat) : (∀ (a0 : List Data) (a1 : List Data) (p0_0 : Int) (f2 : (Data → Data → Option Bool)) (g2 : FuncId) (c2 : List AV) (s2 : Still c2) (h2 : ∀ (y0 : Data) (y1 : Data) (q : Bool), f2 y0 y1 = some q → AC Try.prog g2 (.agg (Data.avs y0) :: .agg (Data.avs y1) :: c2) (.bool q)) (r : Bool), g_EqualFunc_simpl_Data_l1 n a0 a1 p0_0 f2 = some r → posF Try.prog Try.f165 [1, 1, 0, 1, 0] (.bool r) ⟨[(1, .ro (List.map Data.ds a1)), (2, .fn g2 c2), (15, .ro (List.map Data.ds a0)), (16, .int .i64 ((List.length a0 : Nat) : Int)), (17, .int .i64 p0_0)], [], []⟩) := by
  induction n with
  | zero => exact ((fun _ _ _ _ _ _ _ _ _ h => by rw [g_EqualFunc_simpl_Data_l1] at h; cases h))
  | succ n ih =>
    have ih0 := ih
    · intro a0 a1 p0_0 f2 g2 c2 s2 h2 r h
      rw [g_EqualFunc_simpl_Data_l1] at h
      refine posF_of rfl rfl ?_
      try simp only [go_sem, Nat.reduceEqDiff, reduceIte, Nat.reduceAdd, Nat.reduceMul, Nat.reduceLeDiff, Nat.reduceLT, s2.k, s2.r, s2.c, s2.p]
      refine loop_i ?_
      try simp only [go_sem, Nat.reduceEqDiff, reduceIte, Nat.reduceAdd, Nat.reduceMul, Nat.reduceLeDiff, Nat.reduceLT, s2.k, s2.r, s2.c, s2.p]
      refine cond_i (fun hb2 => ?_) (fun hb2 => ?_)
      · replace h := ifT (c := (decide (p0_0 < ((List.length a0 : Nat) : Int)))) hb2 h
        try simp only [go_sem, Nat.reduceEqDiff, reduceIte, Nat.reduceAdd, Nat.reduceMul, Nat.reduceLeDiff, Nat.reduceLT, s2.k, s2.r, s2.c, s2.p]
        refine seq_go ?_
        try simp only [go_sem, Nat.reduceEqDiff, reduceIte, Nat.reduceAdd, Nat.reduceMul, Nat.reduceLeDiff, Nat.reduceLT, s2.k, s2.r, s2.c, s2.p]
        obtain ⟨v6001, hv6001, h⟩ := bindE h
        refine idx_m hv6001 (Data.ds_len _) ?_
        try simp only [go_sem, Nat.reduceEqDiff, reduceIte, Nat.reduceAdd, Nat.reduceMul, Nat.reduceLeDiff, Nat.reduceLT, s2.k, s2.r, s2.c, s2.p]
        obtain ⟨v7002, hv7002, h⟩ := bindE h
        refine idx_m hv7002 (Data.ds_len _) ?_
        try simp only [go_sem, Nat.reduceEqDiff, reduceIte, Nat.reduceAdd, Nat.reduceMul, Nat.reduceLeDiff, Nat.reduceLT, s2.k, s2.r, s2.c, s2.p]
        obtain ⟨v8003, hv8003, h⟩ := bindE h
        refine call_i (h2 _ _ _ hv8003) ?_
        try simp only [go_sem, Nat.reduceEqDiff, reduceIte, Nat.reduceAdd, Nat.reduceMul, Nat.reduceLeDiff, Nat.reduceLT, s2.k, s2.r, s2.c, s2.p]
        refine cond_i (fun hb3 => ?_) (fun hb3 => ?_)
        · replace h := ifT (c := (!v8003)) hb3 h
          try simp only [go_sem, Nat.reduceEqDiff, reduceIte, Nat.reduceAdd, Nat.reduceMul, Nat.reduceLeDiff, Nat.reduceLT, s2.k, s2.r, s2.c, s2.p]
          obtain rfl := Option.some.inj h
          simp only [go_sem, Nat.reduceEqDiff, reduceIte, Nat.reduceAdd, Nat.reduceMul, Nat.reduceLeDiff, Nat.reduceLT, s2.k, s2.r, s2.c, s2.p]
        · replace h := ifF (c := (!v8003)) hb3 h
          try simp only [go_sem, Nat.reduceEqDiff, reduceIte, Nat.reduceAdd, Nat.reduceMul, Nat.reduceLeDiff, Nat.reduceLT, s2.k, s2.r, s2.c, s2.p]
          refine seq_go ?_
          try simp only [go_sem, Nat.reduceEqDiff, reduceIte, Nat.reduceAdd, Nat.reduceMul, Nat.reduceLeDiff, Nat.reduceLT, s2.k, s2.r, s2.c, s2.p]
          have hj := posF_to rfl rfl (ih0 a0 a1 (IntKind.i64.wrap (p0_0 + 1)) f2 g2 c2 s2 h2 _ h)
          refine lp_to hj (.one ⟨_, .done _, [], [], ?_⟩)
          clear hj
          try simp only [go_sem, Nat.reduceEqDiff, reduceIte, Nat.reduceAdd, Nat.reduceMul, Nat.reduceLeDiff, Nat.reduceLT, s2.k, s2.r, s2.c, s2.p]
      · replace h := ifF (c := (decide (p0_0 < ((List.length a0 : Nat) : Int)))) hb2 h
        try simp only [go_sem, Nat.reduceEqDiff, reduceIte, Nat.reduceAdd, Nat.reduceMul, Nat.reduceLeDiff, Nat.reduceLT, s2.k, s2.r, s2.c, s2.p]
        refine seq_go ?_
        try simp only [go_sem, Nat.reduceEqDiff, reduceIte, Nat.reduceAdd, Nat.reduceMul, Nat.reduceLeDiff, Nat.reduceLT, s2.k, s2.r, s2.c, s2.p]
        obtain rfl := Option.some.inj h
        simp only [go_sem, Nat.reduceEqDiff, reduceIte, Nat.reduceAdd, Nat.reduceMul, Nat.reduceLeDiff, Nat.reduceLT, s2.k, s2.r, s2.c, s2.p]
theorem g_EqualFunc_simpl_Data_l1_ok (n : Nat) : (∀ (a0 : List Data) (a1 : List Data) (p0_0 : Int) (f2 : (Data → Data → Option Bool)) (g2 : FuncId) (c2 : List AV) (s2 : Still c2) (h2 : ∀ (y0 : Data) (y1 : Data) (q : Bool), f2 y0 y1 = some q → AC Try.prog g2 (.agg (Data.avs y0) :: .agg (Data.avs y1) :: c2) (.bool q)) (r : Bool), g_EqualFunc_simpl_Data_l1 n a0 a1 p0_0 f2 = some r → posF Try.prog Try.f165 [1, 1, 0, 1, 0] (.bool r) ⟨[(1, .ro (List.map Data.ds a1)), (2, .fn g2 c2), (15, .ro (List.map Data.ds a0)), (16, .int .i64 ((List.length a0 : Nat) : Int)), (17, .int .i64 p0_0)], [], []⟩) := (g_EqualFunc_simpl_Data_l1_all n)

theorem g_EqualFunc_simpl_Data_ok (a0 : List Data) (a1 : List Data) (f2 : (Data → Data → Option Bool)) (g2 : FuncId) (c2 : List AV) (s2 : Still c2) (h2 : ∀ (y0 : Data) (y1 : Data) (q : Bool), f2 y0 y1 = some q → AC Try.prog g2 (.agg (Data.avs y0) :: .agg (Data.avs y1) :: c2) (.bool q)) (r : Bool) (h : g_EqualFunc_simpl_Data a0 a1 f2 = some r) : AC Try.prog 165 [.ro (List.map Data.ds a0), .ro (List.map Data.ds a1), .fn g2 c2] (.bool r) := by
  unfold g_EqualFunc_simpl_Data at h
  refine ac_fn mixed Try.func165 rfl rfl rfl (by kernel_rfl) (by kernel_rfl) ?_
  try simp only [go_sem, Nat.reduceEqDiff, reduceIte, Nat.reduceAdd, Nat.reduceMul, Nat.reduceLeDiff, Nat.reduceLT, s2.k, s2.r, s2.c, s2.p]
  refine cond_i (fun hb1 => ?_) (fun hb1 => ?_)
  · replace h := ifT (c := (!decide (((List.length a0 : Nat) : Int) = ((List.length a1 : Nat) : Int)))) hb1 h
    try simp only [go_sem, Nat.reduceEqDiff, reduceIte, Nat.reduceAdd, Nat.reduceMul, Nat.reduceLeDiff, Nat.reduceLT, s2.k, s2.r, s2.c, s2.p]
    obtain rfl := Option.some.inj h
    simp only [go_sem, Nat.reduceEqDiff, reduceIte, Nat.reduceAdd, Nat.reduceMul, Nat.reduceLeDiff, Nat.reduceLT, s2.k, s2.r, s2.c, s2.p]
  · replace h := ifF (c := (!decide (((List.length a0 : Nat) : Int) = ((List.length a1 : Nat) : Int)))) hb1 h
    try simp only [go_sem, Nat.reduceEqDiff, reduceIte, Nat.reduceAdd, Nat.reduceMul, Nat.reduceLeDiff, Nat.reduceLT, s2.k, s2.r, s2.c, s2.p]
    refine seq_go ?_
    try simp only [go_sem, Nat.reduceEqDiff, reduceIte, Nat.reduceAdd, Nat.reduceMul, Nat.reduceLeDiff, Nat.reduceLT, s2.k, s2.r, s2.c, s2.p]
    have hj := posF_to rfl rfl (g_EqualFunc_simpl_Data_l1_ok fuel a0 a1 0 f2 g2 c2 s2 h2 _ h)
    refine loop_to hj (.one ⟨_, .done _, [], [], ?_⟩)
    clear hj
    try simp only [go_sem, Nat.reduceEqDiff, reduceIte, Nat.reduceAdd, Nat.reduceMul, Nat.reduceLeDiff, Nat.reduceLT, s2.k, s2.r, s2.c, s2.p]
theorem g_EqualFunc_simpl_Constructor_l1_all (n : Nat) : (∀ (a0 : List Constructor) (a1 : List Constructor) (p0_0 : Int) (f2 : (Constructor → Constructor → Option Bool)) (g2 : FuncId) (c2 : List AV) (s2 : Still c2) (h2 : ∀ (y0 : Constructor) (y1 : Constructor) (q : Bool), f2 y0 y1 = some q → AC Try.prog g2 (.agg (Constructor.avs y0) :: .agg (Constructor.avs y1) :: c2) (.bool q)) (r : Bool), g_EqualFunc_simpl_Constructor_l1 n a0 a1 p0_0 f2 = some r → posF Try.prog Try.f237 [1, 1, 0, 1, 0] (.bool r) ⟨[(1, .ro (List.map Constructor.ds a1)), (2, .fn g2 c2), (15, .ro (List.map Constructor.ds a0)), (16, .int .i64 ((List.length a0 : Nat) : Int)), (17, .int .i64 p0_0)], [], []⟩) := by
  induction n with
  | zero => exact ((fun _ _ _ _ _ _ _ _ _ h => by rw [g_EqualFunc_simpl_Constructor_l1] at h; cases h))
  | succ n ih =>
    have ih0 := ih
    · intro a0 a1 p0_0 f2 g2 c2 s2 h2 r h
      rw [g_EqualFunc_simpl_Constructor_l1] at h
      refine posF_of rfl rfl ?_
      try simp only [go_sem, Nat.reduceEqDiff, reduceIte, Nat.reduceAdd, Nat.reduceMul, Nat.reduceLeDiff, Nat.reduceLT, s2.k, s2.r, s2.c, s2.p]
      refine loop_i ?_
      try simp only [go_sem, Nat.reduceEqDiff, reduceIte, Nat.reduceAdd, Nat.reduceMul, Nat.reduceLeDiff, Nat.reduceLT, s2.k, s2.r, s2.c, s2.p]
      refine cond_i (fun hb2 => ?_) (fun hb2 => ?_)
      · replace h := ifT (c := (decide (p0_0 < ((List.length a0 : Nat) : Int)))) hb2 h
        try simp only [go_sem, Nat.reduceEqDiff, reduceIte, Nat.reduceAdd, Nat.reduceMul, Nat.reduceLeDiff, Nat.reduceLT, s2.k, s2.r, s2.c, s2.p]
        refine seq_go ?_
        try simp only [go_sem, Nat.reduceEqDiff, reduceIte, Nat.reduceAdd, Nat.reduceMul, Nat.reduceLeDiff, Nat.reduceLT, s2.k, s2.r, s2.c, s2.p]
        obtain ⟨v6001, hv6001, h⟩ := bindE h
        refine idx_m hv6001 (Constructor.ds_len _) ?_
        try simp only [go_sem, Nat.reduceEqDiff, reduceIte, Nat.reduceAdd, Nat.reduceMul, Nat.reduceLeDiff, Nat.reduceLT, s2.k, s2.r, s2.c, s2.p]
        obtain ⟨v7002, hv7002, h⟩ := bindE h
        refine idx_m hv7002 (Constructor.ds_len _) ?_
        try simp only [go_sem, Nat.reduceEqDiff, reduceIte, Nat.reduceAdd, Nat.reduceMul, Nat.reduceLeDiff, Nat.reduceLT, s2.k, s2.r, s2.c, s2.p]
        obtain ⟨v8003, hv8003, h⟩ := bindE h
        refine call_i (h2 _ _ _ hv8003) ?_
        try simp only [go_sem, Nat.reduceEqDiff, reduceIte, Nat.reduceAdd, Nat.reduceMul, Nat.reduceLeDiff, Nat.reduceLT, s2.k, s2.r, s2.c, s2.p]
        refine cond_i (fun hb3 => ?_) (fun hb3 => ?_)
        · replace h := ifT (c := (!v8003)) hb3 h
          try simp only [go_sem, Nat.reduceEqDiff, reduceIte, Nat.reduceAdd, Nat.reduceMul, Nat.reduceLeDiff, Nat.reduceLT, s2.k, s2.r, s2.c, s2.p]
          obtain rfl := Option.some.inj h
          simp only [go_sem, Nat.reduceEqDiff, reduceIte, Nat.reduceAdd, Nat.reduceMul, Nat.reduceLeDiff, Nat.reduceLT, s2.k, s2.r, s2.c, s2.p]
        · replace h := ifF (c := (!v8003)) hb3 h
          try simp only [go_sem, Nat.reduceEqDiff, reduceIte, Nat.reduceAdd, Nat.reduceMul, Nat.reduceLeDiff, Nat.reduceLT, s2.k, s2.r, s2.c, s2.p]
          refine seq_go ?_
          try simp only [go_sem, Nat.reduceEqDiff, reduceIte, Nat.reduceAdd, Nat.reduceMul, Nat.reduceLeDiff, Nat.reduceLT, s2.k, s2.r, s2.c, s2.p]
          have hj := posF_to rfl rfl (ih0 a0 a1 (IntKind.i64.wrap (p0_0 + 1)) f2 g2 c2 s2 h2 _ h)
          refine lp_to hj (.one ⟨_, .done _, [], [], ?_⟩)
          clear hj
          try simp only [go_sem, Nat.reduceEqDiff, reduceIte, Nat.reduceAdd, Nat.reduceMul, Nat.reduceLeDiff, Nat.reduceLT, s2.k, s2.r, s2.c, s2.p]
      · replace h := ifF (c := (decide (p0_0 < ((List.length a0 : Nat) : Int)))) hb2 h
        try simp only [go_sem, Nat.reduceEqDiff, reduceIte, Nat.reduceAdd, Nat.reduceMul, Nat.reduceLeDiff, Nat.reduceLT, s2.k, s2.r, s2.c, s2.p]
        refine seq_go ?_
        try simp only [go_sem, Nat.reduceEqDiff, reduceIte, Nat.reduceAdd, Nat.reduceMul, Nat.reduceLeDiff, Nat.reduceLT, s2.k, s2.r, s2.c, s2.p]
        obtain rfl := Option.some.inj h
        simp only [go_sem, Nat.reduceEqDiff, reduceIte, Nat.reduceAdd, Nat.reduceMul, Nat.reduceLeDiff, Nat.reduceLT, s2.k, s2.r, s2.c, s2.p]
theorem g_EqualFunc_simpl_Constructor_l1_ok (n : Nat) : (∀ (a0 : List Constructor) (a1 : List Constructor) (p0_0 : Int) (f2 : (Constructor → Constructor → Option Bool)) (g2 : FuncId) (c2 : List AV) (s2 : Still c2) (h2 : ∀ (y0 : Constructor) (y1 : Constructor) (q : Bool), f2 y0 y1 = some q → AC Try.prog g2 (.agg (Constructor.avs y0) :: .agg (Constructor.avs y1) :: c2) (.bool q)) (r : Bool), g_EqualFunc_simpl_Constructor_l1 n a0 a1 p0_0 f2 = some r → posF Try.prog Try.f237 [1, 1, 0, 1, 0] (.bool r) ⟨[(1, .ro (List.map Constructor.ds a1)), (2, .fn g2 c2), (15, .ro (List.map Constructor.ds a0)), (16, .int .i64 ((List.length a0 : Nat) : Int)), (17, .int .i64 p0_0)], [], []⟩) := (g_EqualFunc_simpl_Constructor_l1_all n)

theorem g_EqualFunc_simpl_Constructor_ok (a0 : List Constructor) (a1 : List Constructor) (f2 : (Constructor → Constructor → Option Bool)) (g2 : FuncId) (c2 : List AV) (s2 : Still c2) (h2 : ∀ (y0 : Constructor) (y1 : Constructor) (q : Bool), f2 y0 y1 = some q → AC Try.prog g2 (.agg (Constructor.avs y0) :: .agg (Constructor.avs y1) :: c2) (.bool q)) (r : Bool) (h : g_EqualFunc_simpl_Constructor a0 a1 f2 = some r) : AC Try.prog 237 [.ro (List.map Constructor.ds a0), .ro (List.map Constructor.ds a1), .fn g2 c2] (.bool r) := by
  unfold g_EqualFunc_simpl_Constructor at h
  refine ac_fn mixed Try.func237 rfl rfl rfl (by kernel_rfl) (by kernel_rfl) ?_
  try simp only [go_sem, Nat.reduceEqDiff, reduceIte, Nat.reduceAdd, Nat.reduceMul, Nat.reduceLeDiff, Nat.reduceLT, s2.k, s2.r, s2.c, s2.p]
  refine cond_i (fun hb1 => ?_) (fun hb1 => ?_)
  · replace h := ifT (c := (!decide (((List.length a0 : Nat) : Int) = ((List.length a1 : Nat) : Int)))) hb1 h
    try simp only [go_sem, Nat.reduceEqDiff, reduceIte, Nat.reduceAdd, Nat.reduceMul, Nat.reduceLeDiff, Nat.reduceLT, s2.k, s2.r, s2.c, s2.p]
    obtain rfl := Option.some.inj h
    simp only [go_sem, Nat.reduceEqDiff, reduceIte, Nat.reduceAdd, Nat.reduceMul, Nat.reduceLeDiff, Nat.reduceLT, s2.k, s2.r, s2.c, s2.p]
  · replace h := ifF (c := (!decide (((List.length a0 : Nat) : Int) = ((List.length a1 : Nat) : Int)))) hb1 h
    try simp only [go_sem, Nat.reduceEqDiff, reduceIte, Nat.reduceAdd, Nat.reduceMul, Nat.reduceLeDiff, Nat.reduceLT, s2.k, s2.r, s2.c, s2.p]
    refine seq_go ?_
    try simp only [go_sem, Nat.reduceEqDiff, reduceIte, Nat.reduceAdd, Nat.reduceMul, Nat.reduceLeDiff, Nat.reduceLT, s2.k, s2.r, s2.c, s2.p]
    have hj := posF_to rfl rfl (g_EqualFunc_simpl_Constructor_l1_ok fuel a0 a1 0 f2 g2 c2 s2 h2 _ h)
    refine loop_to hj (.one ⟨_, .done _, [], [], ?_⟩)
    clear hj
    try simp only [go_sem, Nat.reduceEqDiff, reduceIte, Nat.reduceAdd, Nat.reduceMul, Nat.reduceLeDiff, Nat.reduceLT, s2.k, s2.r, s2.c, s2.p]
theorem g_EqualFunc_simpl_Type_l1_all (n : Nat) : (∀ (a0 : List TType) (a1 : List TType) (p0_0 : Int) (f2 : (TType → TType → Option Bool)) (g2 : FuncId) (c2 : List AV) (s2 : Still c2) (h2 : ∀ (y0 : TType) (y1 : TType) (q : Bool), f2 y0 y1 = some q → AC Try.prog g2 (.agg (TType.avs y0) :: .agg (TType.avs y1) :: c2) (.bool q)) (r : Bool), g_EqualFunc_simpl_Type_l1 n a0 a1 p0_0 f2 = some r → posF Try.prog Try.f239 [1, 1, 0, 1, 0] (.bool r) ⟨[(1, .ro (List.map TType.ds a1)), (2, .fn g2 c2), (15, .ro (List.map TType.ds a0)), (16, .int .i64 ((List.length a0 : Nat) : Int)), (17, .int .i64 p0_0)], [], []⟩) := by
  induction n with
  | zero => exact ((fun _ _ _ _ _ _ _ _ _ h => by rw [g_EqualFunc_simpl_Type_l1] at h; cases h))
  | succ n ih =>
    have ih0 := ih
    · intro a0 a1 p0_0 f2 g2 c2 s2 h2 r h
      rw [g_EqualFunc_simpl_Type_l1] at h
      refine posF_of rfl rfl ?_
      try simp only [go_sem, Nat.reduceEqDiff, reduceIte, Nat.reduceAdd, Nat.reduceMul, Nat.reduceLeDiff, Nat.reduceLT, s2.k, s2.r, s2.c, s2.p]
      refine loop_i ?_
      try simp only [go_sem, Nat.reduceEqDiff, reduceIte, Nat.reduceAdd, Nat.reduceMul, Nat.reduceLeDiff, Nat.reduceLT, s2.k, s2.r, s2.c, s2.p]
      refine cond_i (fun hb2 => ?_) (fun hb2 => ?_)
      · replace h := ifT (c := (decide (p0_0 < ((List.length a0 : Nat) : Int)))) hb2 h
        try simp only [go_sem, Nat.reduceEqDiff, reduceIte, Nat.reduceAdd, Nat.reduceMul, Nat.reduceLeDiff, Nat.reduceLT, s2.k, s2.r, s2.c, s2.p]
        refine seq_go ?_
        try simp only [go_sem, Nat.reduceEqDiff, reduceIte, Nat.reduceAdd, Nat.reduceMul, Nat.reduceLeDiff, Nat.reduceLT, s2.k, s2.r, s2.c, s2.p]
        obtain ⟨v6001, hv6001, h⟩ := bindE h
        refine idx_m hv6001 (TType.ds_len _) ?_
        try simp only [go_sem, Nat.reduceEqDiff, reduceIte, Nat.reduceAdd, Nat.reduceMul, Nat.reduceLeDiff, Nat.reduceLT, s2.k, s2.r, s2.c, s2.p]
        obtain ⟨v7002, hv7002, h⟩ := bindE h
        refine idx_m hv7002 (TType.ds_len _) ?_
        try simp only [go_sem, Nat.reduceEqDiff, reduceIte, Nat.reduceAdd, Nat.reduceMul, Nat.reduceLeDiff, Nat.reduceLT, s2.k, s2.r, s2.c, s2.p]
        obtain ⟨v8003, hv8003, h⟩ := bindE h
        refine call_i (h2 _ _ _ hv8003) ?_
        try simp only [go_sem, Nat.reduceEqDiff, reduceIte, Nat.reduceAdd, Nat.reduceMul, Nat.reduceLeDiff, Nat.reduceLT, s2.k, s2.r, s2.c, s2.p]
        refine cond_i (fun hb3 => ?_) (fun hb3 => ?_)
        · replace h := ifT (c := (!v8003)) hb3 h
          try simp only [go_sem, Nat.reduceEqDiff, reduceIte, Nat.reduceAdd, Nat.reduceMul, Nat.reduceLeDiff, Nat.reduceLT, s2.k, s2.r, s2.c, s2.p]
          obtain rfl := Option.some.inj h
          simp only [go_sem, Nat.reduceEqDiff, reduceIte, Nat.reduceAdd, Nat.reduceMul, Nat.reduceLeDiff, Nat.reduceLT, s2.k, s2.r, s2.c, s2.p]
        · replace h := ifF (c := (!v8003)) hb3 h
          try simp only [go_sem, Nat.reduceEqDiff, reduceIte, Nat.reduceAdd, Nat.reduceMul, Nat.reduceLeDiff, Nat.reduceLT, s2.k, s2.r, s2.c, s2.p]
          refine seq_go ?_
          try simp only [go_sem, Nat.reduceEqDiff, reduceIte, Nat.reduceAdd, Nat.reduceMul, Nat.reduceLeDiff, Nat.reduceLT, s2.k, s2.r, s2.c, s2.p]
          have hj := posF_to rfl rfl (ih0 a0 a1 (IntKind.i64.wrap (p0_0 + 1)) f2 g2 c2 s2 h2 _ h)
          refine lp_to hj (.one ⟨_, .done _, [], [], ?_⟩)
          clear hj
          try simp only [go_sem, Nat.reduceEqDiff, reduceIte, Nat.reduceAdd, Nat.reduceMul, Nat.reduceLeDiff, Nat.reduceLT, s2.k, s2.r, s2.c, s2.p]
      · replace h := ifF (c := (decide (p0_0 < ((List.length a0 : Nat) : Int)))) hb2 h
        try simp only [go_sem, Nat.reduceEqDiff, reduceIte, Nat.reduceAdd, Nat.reduceMul, Nat.reduceLeDiff, Nat.reduceLT, s2.k, s2.r, s2.c, s2.p]
        refine seq_go ?_
        try simp only [go_sem, Nat.reduceEqDiff, reduceIte, Nat.reduceAdd, Nat.reduceMul, Nat.reduceLeDiff, Nat.reduceLT, s2.k, s2.r, s2.c, s2.p]
        obtain rfl := Option.some.inj h
        simp only [go_sem, Nat.reduceEqDiff, reduceIte, Nat.reduceAdd, Nat.reduceMul, Nat.reduceLeDiff, Nat.reduceLT, s2.k, s2.r, s2.c, s2.p]
theorem g_EqualFunc_simpl_Type_l1_ok (n : Nat) : (∀ (a0 : List TType) (a1 : List TType) (p0_0 : Int) (f2 : (TType → TType → Option Bool)) (g2 : FuncId) (c2 : List AV) (s2 : Still c2) (h2 : ∀ (y0 : TType) (y1 : TType) (q : Bool), f2 y0 y1 = some q → AC Try.prog g2 (.agg (TType.avs y0) :: .agg (TType.avs y1) :: c2) (.bool q)) (r : Bool), g_EqualFunc_simpl_Type_l1 n a0 a1 p0_0 f2 = some r → posF Try.prog Try.f239 [1, 1, 0, 1, 0] (.bool r) ⟨[(1, .ro (List.map TType.ds a1)), (2, .fn g2 c2), (15, .ro (List.map TType.ds a0)), (16, .int .i64 ((List.length a0 : Nat) : Int)), (17, .int .i64 p0_0)], [], []⟩) := (g_EqualFunc_simpl_Type_l1_all n)

theorem g_EqualFunc_simpl_Type_ok (a0 : List TType) (a1 : List TType) (f2 : (TType → TType → Option Bool)) (g2 : FuncId) (c2 : List AV) (s2 : Still c2) (h2 : ∀ (y0 : TType) (y1 : TType) (q : Bool), f2 y0 y1 = some q → AC Try.prog g2 (.agg (TType.avs y0) :: .agg (TType.avs y1) :: c2) (.bool q)) (r : Bool) (h : g_EqualFunc_simpl_Type a0 a1 f2 = some r) : AC Try.prog 239 [.ro (List.map TType.ds a0), .ro (List.map TType.ds a1), .fn g2 c2] (.bool r) := by
  unfold g_EqualFunc_simpl_Type at h
  refine ac_fn mixed Try.func239 rfl rfl rfl (by kernel_rfl) (by kernel_rfl) ?_
  try simp only [go_sem, Nat.reduceEqDiff, reduceIte, Nat.reduceAdd, Nat.reduceMul, Nat.reduceLeDiff, Nat.reduceLT, s2.k, s2.r, s2.c, s2.p]
  refine cond_i (fun hb1 => ?_) (fun hb1 => ?_)
  · replace h := ifT (c := (!decide (((List.length a0 : Nat) : Int) = ((List.length a1 : Nat) : Int)))) hb1 h
    try simp only [go_sem, Nat.reduceEqDiff, reduceIte, Nat.reduceAdd, Nat.reduceMul, Nat.reduceLeDiff, Nat.reduceLT, s2.k, s2.r, s2.c, s2.p]
    obtain rfl := Option.some.inj h
    simp only [go_sem, Nat.reduceEqDiff, reduceIte, Nat.reduceAdd, Nat.reduceMul, Nat.reduceLeDiff, Nat.reduceLT, s2.k, s2.r, s2.c, s2.p]
  · replace h := ifF (c := (!decide (((List.length a0 : Nat) : Int) = ((List.length a1 : Nat) : Int)))) hb1 h
    try simp only [go_sem, Nat.reduceEqDiff, reduceIte, Nat.reduceAdd, Nat.reduceMul, Nat.reduceLeDiff, Nat.reduceLT, s2.k, s2.r, s2.c, s2.p]
    refine seq_go ?_
    try simp only [go_sem, Nat.reduceEqDiff, reduceIte, Nat.reduceAdd, Nat.reduceMul, Nat.reduceLeDiff, Nat.reduceLT, s2.k, s2.r, s2.c, s2.p]
    have hj := posF_to rfl rfl (g_EqualFunc_simpl_Type_l1_ok fuel a0 a1 0 f2 g2 c2 s2 h2 _ h)
    refine loop_to hj (.one ⟨_, .done _, [], [], ?_⟩)
    clear hj
    try simp only [go_sem, Nat.reduceEqDiff, reduceIte, Nat.reduceAdd, Nat.reduceMul, Nat.reduceLeDiff, Nat.reduceLT, s2.k, s2.r, s2.c, s2.p]
theorem i_SameType_all (n : Nat) : (∀ (a0 : TType) (a1 : TType) (r : Bool), i_SameType n a0 a1 = some r → AC Try.prog 169 [.agg (TType.avs a0), .agg (TType.avs a1)] (.bool r)) := by
  induction n with
  | zero => exact ((fun _ _ _ h => by rw [i_SameType] at h; cases h))
  | succ n ih =>
    have ih0 := ih
    · intro a0 a1 r h
      rw [i_SameType] at h
      refine ac_fn mixed Try.func169 rfl rfl rfl (by kernel_rfl) (by kernel_rfl) ?_
      try simp only [go_sem, Nat.reduceEqDiff, reduceIte, Nat.reduceAdd, Nat.reduceMul, Nat.reduceLeDiff, Nat.reduceLT]
      refine cond_i (fun hb1 => ?_) (fun hb1 => ?_)
      · replace h := ifT (c := (decide (a0.kind = a1.kind))) hb1 h
        try simp only [go_sem, Nat.reduceEqDiff, reduceIte, Nat.reduceAdd, Nat.reduceMul, Nat.reduceLeDiff, Nat.reduceLT]
        refine cond_i (fun hb2 => ?_) (fun hb2 => ?_)
        · replace h := ifT (c := (sameStr a0.name a1.name)) hb2 h
          try simp only [go_sem, Nat.reduceEqDiff, reduceIte, Nat.reduceAdd, Nat.reduceMul, Nat.reduceLeDiff, Nat.reduceLT]
          obtain ⟨v2017, hv2017, h⟩ := bindE h
          refine call_i (g_EqualFunc_simpl_Type_ok _ _ _ 169 [] (Still.of rfl) (fun y0 y1 q hq => ih0 y0 y1  q hq) _ hv2017) ?_
          try simp only [go_sem, Nat.reduceEqDiff, reduceIte, Nat.reduceAdd, Nat.reduceMul, Nat.reduceLeDiff, Nat.reduceLT]
          refine seq_go ?_
          try simp only [go_sem, Nat.reduceEqDiff, reduceIte, Nat.reduceAdd, Nat.reduceMul, Nat.reduceLeDiff, Nat.reduceLT]
          obtain rfl := Option.some.inj h
          simp only [go_sem, Nat.reduceEqDiff, reduceIte, Nat.reduceAdd, Nat.reduceMul, Nat.reduceLeDiff, Nat.reduceLT]
        · replace h := ifF (c := (sameStr a0.name a1.name)) hb2 h
          try simp only [go_sem, Nat.reduceEqDiff, reduceIte, Nat.reduceAdd, Nat.reduceMul, Nat.reduceLeDiff, Nat.reduceLT]
          refine seq_go ?_
          try simp only [go_sem, Nat.reduceEqDiff, reduceIte, Nat.reduceAdd, Nat.reduceMul, Nat.reduceLeDiff, Nat.reduceLT]
          obtain rfl := Option.some.inj h
          simp only [go_sem, Nat.reduceEqDiff, reduceIte, Nat.reduceAdd, Nat.reduceMul, Nat.reduceLeDiff, Nat.reduceLT]
      · replace h := ifF (c := (decide (a0.kind = a1.kind))) hb1 h
        try simp only [go_sem, Nat.reduceEqDiff, reduceIte, Nat.reduceAdd, Nat.reduceMul, Nat.reduceLeDiff, Nat.reduceLT]
        refine seq_go ?_
        try simp only [go_sem, Nat.reduceEqDiff, reduceIte, Nat.reduceAdd, Nat.reduceMul, Nat.reduceLeDiff, Nat.reduceLT]
        obtain rfl := Option.some.inj h
        simp only [go_sem, Nat.reduceEqDiff, reduceIte, Nat.reduceAdd, Nat.reduceMul, Nat.reduceLeDiff, Nat.reduceLT]
theorem i_SameType_ok (n : Nat) : (∀ (a0 : TType) (a1 : TType) (r : Bool), i_SameType n a0 a1 = some r → AC Try.prog 169 [.agg (TType.avs a0), .agg (TType.avs a1)] (.bool r)) := (i_SameType_all n)

theorem i_sameData_1_ok (a0 : Constructor) (a1 : Constructor) (r : Bool) (h : i_sameData_1 a0 a1 = some r) : AC Try.prog 238 [.agg (Constructor.avs a0), .agg (Constructor.avs a1)] (.bool r) := by
  unfold i_sameData_1 at h
  refine ac_fn mixed Try.func238 rfl rfl rfl (by kernel_rfl) (by kernel_rfl) ?_
  try simp only [go_sem, Nat.reduceEqDiff, reduceIte, Nat.reduceAdd, Nat.reduceMul, Nat.reduceLeDiff, Nat.reduceLT]
  refine cond_i (fun hb1 => ?_) (fun hb1 => ?_)
  · replace h := ifT (c := (sameStr a0.name a1.name)) hb1 h
    try simp only [go_sem, Nat.reduceEqDiff, reduceIte, Nat.reduceAdd, Nat.reduceMul, Nat.reduceLeDiff, Nat.reduceLT]
    obtain ⟨v2010, hv2010, h⟩ := bindE h
    refine call_i (g_EqualFunc_simpl_Type_ok _ _ _ 169 [] (Still.of rfl) (fun y0 y1 q hq => i_SameType_ok fuel y0 y1  q hq) _ hv2010) ?_
    try simp only [go_sem, Nat.reduceEqDiff, reduceIte, Nat.reduceAdd, Nat.reduceMul, Nat.reduceLeDiff, Nat.reduceLT]
    refine seq_go ?_
    try simp only [go_sem, Nat.reduceEqDiff, reduceIte, Nat.reduceAdd, Nat.reduceMul, Nat.reduceLeDiff, Nat.reduceLT]
    obtain rfl := Option.some.inj h
    simp only [go_sem, Nat.reduceEqDiff, reduceIte, Nat.reduceAdd, Nat.reduceMul, Nat.reduceLeDiff, Nat.reduceLT]
  · replace h := ifF (c := (sameStr a0.name a1.name)) hb1 h
    try simp only [go_sem, Nat.reduceEqDiff, reduceIte, Nat.reduceAdd, Nat.reduceMul, Nat.reduceLeDiff, Nat.reduceLT]
    refine seq_go ?_
    try simp only [go_sem, Nat.reduceEqDiff, reduceIte, Nat.reduceAdd, Nat.reduceMul, Nat.reduceLeDiff, Nat.reduceLT]
    obtain rfl := Option.some.inj h
    simp only [go_sem, Nat.reduceEqDiff, reduceIte, Nat.reduceAdd, Nat.reduceMul, Nat.reduceLeDiff, Nat.reduceLT]
theorem i_sameData_ok (a0 : Data) (a1 : Data) (r : Bool) (h : i_sameData a0 a1 = some r) : AC Try.prog 166 [.agg (Data.avs a0), .agg (Data.avs a1)] (.bool r) := by
  unfold i_sameData at h
  refine ac_fn mixed Try.func166 rfl rfl rfl (by kernel_rfl) (by kernel_rfl) ?_
  try simp only [go_sem, Nat.reduceEqDiff, reduceIte, Nat.reduceAdd, Nat.reduceMul, Nat.reduceLeDiff, Nat.reduceLT]
  refine cond_i (fun hb1 => ?_) (fun hb1 => ?_)
  · replace h := ifT (c := (sameStr a0.name a1.name)) hb1 h
    try simp only [go_sem, Nat.reduceEqDiff, reduceIte, Nat.reduceAdd, Nat.reduceMul, Nat.reduceLeDiff, Nat.reduceLT]
    obtain ⟨v2010, hv2010, h⟩ := bindE h
    refine call_i (g_EqualFunc_simpl_Constructor_ok _ _ _ 238 [] (Still.of rfl) (fun y0 y1 q hq => i_sameData_1_ok y0 y1  q hq) _ hv2010) ?_
    try simp only [go_sem, Nat.reduceEqDiff, reduceIte, Nat.reduceAdd, Nat.reduceMul, Nat.reduceLeDiff, Nat.reduceLT]
    refine seq_go ?_
    try simp only [go_sem, Nat.reduceEqDiff, reduceIte, Nat.reduceAdd, Nat.reduceMul, Nat.reduceLeDiff, Nat.reduceLT]
    obtain rfl := Option.some.inj h
    simp only [go_sem, Nat.reduceEqDiff, reduceIte, Nat.reduceAdd, Nat.reduceMul, Nat.reduceLeDiff, Nat.reduceLT]
  · replace h := ifF (c := (sameStr a0.name a1.name)) hb1 h
    try simp only [go_sem, Nat.reduceEqDiff, reduceIte, Nat.reduceAdd, Nat.reduceMul, Nat.reduceLeDiff, Nat.reduceLT]
    refine seq_go ?_
    try simp only [go_sem, Nat.reduceEqDiff, reduceIte, Nat.reduceAdd, Nat.reduceMul, Nat.reduceLeDiff, Nat.reduceLT]
    obtain rfl := Option.some.inj h
    simp only [go_sem, Nat.reduceEqDiff, reduceIte, Nat.reduceAdd, Nat.reduceMul, Nat.reduceLeDiff, Nat.reduceLT]
theorem g_EqualFunc_simpl_Def_l1_all (n : Nat) : (∀ (a0 : List Def) (a1 : List Def) (p0_0 : Int) (f2 : (Def → Def → Option Bool)) (g2 : FuncId) (c2 : List AV) (s2 : Still c2) (h2 : ∀ (y0 : Def) (y1 : Def) (q : Bool), f2 y0 y1 = some q → AC Try.prog g2 (.agg (Def.avs y0) :: .agg (Def.avs y1) :: c2) (.bool q)) (r : Bool), g_EqualFunc_simpl_Def_l1 n a0 a1 p0_0 f2 = some r → posF Try.prog Try.f167 [1, 1, 0, 1, 0] (.bool r) ⟨[(1, .ro (List.map Def.ds a1)), (2, .fn g2 c2), (15, .ro (List.map Def.ds a0)), (16, .int .i64 ((List.length a0 : Nat) : Int)), (17, .int .i64 p0_0)], [], []⟩) := by
  induction n with
  | zero => exact ((fun _ _ _ _ _ _ _ _ _ h => by rw [g_EqualFunc_simpl_Def_l1] at h; cases h))
  | succ n ih =>
    have ih0 := ih
    · intro a0 a1 p0_0 f2 g2 c2 s2 h2 r h
      rw [g_EqualFunc_simpl_Def_l1] at h
      refine posF_of rfl rfl ?_
      try simp only [go_sem, Nat.reduceEqDiff, reduceIte, Nat.reduceAdd, Nat.reduceMul, Nat.reduceLeDiff, Nat.reduceLT, s2.k, s2.r, s2.c, s2.p]
      refine loop_i ?_
      try simp only [go_sem, Nat.reduceEqDiff, reduceIte, Nat.reduceAdd, Nat.reduceMul, Nat.reduceLeDiff, Nat.reduceLT, s2.k, s2.r, s2.c, s2.p]
      refine cond_i (fun hb2 => ?_) (fun hb2 => ?_)
      · replace h := ifT (c := (decide (p0_0 < ((List.length a0 : Nat) : Int)))) hb2 h
        try simp only [go_sem, Nat.reduceEqDiff, reduceIte, Nat.reduceAdd, Nat.reduceMul, Nat.reduceLeDiff, Nat.reduceLT, s2.k, s2.r, s2.c, s2.p]
        refine seq_go ?_
        try simp only [go_sem, Nat.reduceEqDiff, reduceIte, Nat.reduceAdd, Nat.reduceMul, Nat.reduceLeDiff, Nat.reduceLT, s2.k, s2.r, s2.c, s2.p]
        obtain ⟨v6001, hv6001, h⟩ := bindE h
        refine idx_m hv6001 (Def.ds_len _) ?_
        try simp only [go_sem, Nat.reduceEqDiff, reduceIte, Nat.reduceAdd, Nat.reduceMul, Nat.reduceLeDiff, Nat.reduceLT, s2.k, s2.r, s2.c, s2.p]
        obtain ⟨v7002, hv7002, h⟩ := bindE h
        refine idx_m hv7002 (Def.ds_len _) ?_
        try simp only [go_sem, Nat.reduceEqDiff, reduceIte, Nat.reduceAdd, Nat.reduceMul, Nat.reduceLeDiff, Nat.reduceLT, s2.k, s2.r, s2.c, s2.p]
        obtain ⟨v8003, hv8003, h⟩ := bindE h
        refine call_i (h2 _ _ _ hv8003) ?_
        try simp only [go_sem, Nat.reduceEqDiff, reduceIte, Nat.reduceAdd, Nat.reduceMul, Nat.reduceLeDiff, Nat.reduceLT, s2.k, s2.r, s2.c, s2.p]
        refine cond_i (fun hb3 => ?_) (fun hb3 => ?_)
        · replace h := ifT (c := (!v8003)) hb3 h
          try simp only [go_sem, Nat.reduceEqDiff, reduceIte, Nat.reduceAdd, Nat.reduceMul, Nat.reduceLeDiff, Nat.reduceLT, s2.k, s2.r, s2.c, s2.p]
          obtain rfl := Option.some.inj h
          simp only [go_sem, Nat.reduceEqDiff, reduceIte, Nat.reduceAdd, Nat.reduceMul, Nat.reduceLeDiff, Nat.reduceLT, s2.k, s2.r, s2.c, s2.p]
        · replace h := ifF (c := (!v8003)) hb3 h
          try simp only [go_sem, Nat.reduceEqDiff, reduceIte, Nat.reduceAdd, Nat.reduceMul, Nat.reduceLeDiff, Nat.reduceLT, s2.k, s2.r, s2.c, s2.p]
          refine seq_go ?_
          try simp only [go_sem, Nat.reduceEqDiff, reduceIte, Nat.reduceAdd, Nat.reduceMul, Nat.reduceLeDiff, Nat.reduceLT, s2.k, s2.r, s2.c, s2.p]
          have hj := posF_to rfl rfl (ih0 a0 a1 (IntKind.i64.wrap (p0_0 + 1)) f2 g2 c2 s2 h2 _ h)
          refine lp_to hj (.one ⟨_, .done _, [], [], ?_⟩)
          clear hj
          try simp only [go_sem, Nat.reduceEqDiff, reduceIte, Nat.reduceAdd, Nat.reduceMul, Nat.reduceLeDiff, Nat.reduceLT, s2.k, s2.r, s2.c, s2.p]
      · replace h := ifF (c := (decide (p0_0 < ((List.length a0 : Nat) : Int)))) hb2 h
        try simp only [go_sem, Nat.reduceEqDiff, reduceIte, Nat.reduceAdd, Nat.reduceMul, Nat.reduceLeDiff, Nat.reduceLT, s2.k, s2.r, s2.c, s2.p]
        refine seq_go ?_
        try simp only [go_sem, Nat.reduceEqDiff, reduceIte, Nat.reduceAdd, Nat.reduceMul, Nat.reduceLeDiff, Nat.reduceLT, s2.k, s2.r, s2.c, s2.p]
        obtain rfl := Option.some.inj h
        simp only [go_sem, Nat.reduceEqDiff, reduceIte, Nat.reduceAdd, Nat.reduceMul, Nat.reduceLeDiff, Nat.reduceLT, s2.k, s2.r, s2.c, s2.p]
theorem g_EqualFunc_simpl_Def_l1_ok (n : Nat) : (∀ (a0 : List Def) (a1 : List Def) (p0_0 : Int) (f2 : (Def → Def → Option Bool)) (g2 : FuncId) (c2 : List AV) (s2 : Still c2) (h2 : ∀ (y0 : Def) (y1 : Def) (q : Bool), f2 y0 y1 = some q → AC Try.prog g2 (.agg (Def.avs y0) :: .agg (Def.avs y1) :: c2) (.bool q)) (r : Bool), g_EqualFunc_simpl_Def_l1 n a0 a1 p0_0 f2 = some r → posF Try.prog Try.f167 [1, 1, 0, 1, 0] (.bool r) ⟨[(1, .ro (List.map Def.ds a1)), (2, .fn g2 c2), (15, .ro (List.map Def.ds a0)), (16, .int .i64 ((List.length a0 : Nat) : Int)), (17, .int .i64 p0_0)], [], []⟩) := (g_EqualFunc_simpl_Def_l1_all n)

theorem g_EqualFunc_simpl_Def_ok (a0 : List Def) (a1 : List Def) (f2 : (Def → Def → Option Bool)) (g2 : FuncId) (c2 : List AV) (s2 : Still c2) (h2 : ∀ (y0 : Def) (y1 : Def) (q : Bool), f2 y0 y1 = some q → AC Try.prog g2 (.agg (Def.avs y0) :: .agg (Def.avs y1) :: c2) (.bool q)) (r : Bool) (h : g_EqualFunc_simpl_Def a0 a1 f2 = some r) : AC Try.prog 167 [.ro (List.map Def.ds a0), .ro (List.map Def.ds a1), .fn g2 c2] (.bool r) := by
  unfold g_EqualFunc_simpl_Def at h
  refine ac_fn mixed Try.func167 rfl rfl rfl (by kernel_rfl) (by kernel_rfl) ?_
  try simp only [go_sem, Nat.reduceEqDiff, reduceIte, Nat.reduceAdd, Nat.reduceMul, Nat.reduceLeDiff, Nat.reduceLT, s2.k, s2.r, s2.c, s2.p]
  refine cond_i (fun hb1 => ?_) (fun hb1 => ?_)
  · replace h := ifT (c := (!decide (((List.length a0 : Nat) : Int) = ((List.length a1 : Nat) : Int)))) hb1 h
    try simp only [go_sem, Nat.reduceEqDiff, reduceIte, Nat.reduceAdd, Nat.reduceMul, Nat.reduceLeDiff, Nat.reduceLT, s2.k, s2.r, s2.c, s2.p]
    obtain rfl := Option.some.inj h
    simp only [go_sem, Nat.reduceEqDiff, reduceIte, Nat.reduceAdd, Nat.reduceMul, Nat.reduceLeDiff, Nat.reduceLT, s2.k, s2.r, s2.c, s2.p]
  · replace h := ifF (c := (!decide (((List.length a0 : Nat) : Int) = ((List.length a1 : Nat) : Int)))) hb1 h
    try simp only [go_sem, Nat.reduceEqDiff, reduceIte, Nat.reduceAdd, Nat.reduceMul, Nat.reduceLeDiff, Nat.reduceLT, s2.k, s2.r, s2.c, s2.p]
    refine seq_go ?_
    try simp only [go_sem, Nat.reduceEqDiff, reduceIte, Nat.reduceAdd, Nat.reduceMul, Nat.reduceLeDiff, Nat.reduceLT, s2.k, s2.r, s2.c, s2.p]
    have hj := posF_to rfl rfl (g_EqualFunc_simpl_Def_l1_ok fuel a0 a1 0 f2 g2 c2 s2 h2 _ h)
    refine loop_to hj (.one ⟨_, .done _, [], [], ?_⟩)
    clear hj
    try simp only [go_sem, Nat.reduceEqDiff, reduceIte, Nat.reduceAdd, Nat.reduceMul, Nat.reduceLeDiff, Nat.reduceLT, s2.k, s2.r, s2.c, s2.p]
theorem g_Equal_sstring_l1_all (n : Nat) : (∀ (a0 : List ByteArray) (a1 : List ByteArray) (p0_0 : Int) (r : Bool), g_Equal_sstring_l1 n a0 a1 p0_0 = some r → posF Try.prog Try.f240 [1, 1, 0, 1, 0] (.bool r) ⟨[(0, .ro (List.map strD a0)), (1, .ro (List.map strD a1)), (12, .int .i64 ((List.length a0 : Nat) : Int)), (13, .int .i64 p0_0)], [], []⟩) := by
  induction n with
  | zero => exact ((fun _ _ _ _ h => by rw [g_Equal_sstring_l1] at h; cases h))
  | succ n ih =>
    have ih0 := ih
    · intro a0 a1 p0_0 r h
      rw [g_Equal_sstring_l1] at h
      refine posF_of rfl rfl ?_
      try simp only [go_sem, Nat.reduceEqDiff, reduceIte, Nat.reduceAdd, Nat.reduceMul, Nat.reduceLeDiff, Nat.reduceLT]
      refine loop_i ?_
      try simp only [go_sem, Nat.reduceEqDiff, reduceIte, Nat.reduceAdd, Nat.reduceMul, Nat.reduceLeDiff, Nat.reduceLT]
      refine cond_i (fun hb2 => ?_) (fun hb2 => ?_)
      · replace h := ifT (c := (decide (p0_0 < ((List.length a0 : Nat) : Int)))) hb2 h
        try simp only [go_sem, Nat.reduceEqDiff, reduceIte, Nat.reduceAdd, Nat.reduceMul, Nat.reduceLeDiff, Nat.reduceLT]
        refine seq_go ?_
        try simp only [go_sem, Nat.reduceEqDiff, reduceIte, Nat.reduceAdd, Nat.reduceMul, Nat.reduceLeDiff, Nat.reduceLT]
        obtain ⟨v7002, hv7002, h⟩ := bindE h
        refine idx_m hv7002 rfl ?_
        try simp only [go_sem, Nat.reduceEqDiff, reduceIte, Nat.reduceAdd, Nat.reduceMul, Nat.reduceLeDiff, Nat.reduceLT]
        obtain ⟨v7006, hv7006, h⟩ := bindE h
        refine idx_m hv7006 rfl ?_
        try simp only [go_sem, Nat.reduceEqDiff, reduceIte, Nat.reduceAdd, Nat.reduceMul, Nat.reduceLeDiff, Nat.reduceLT]
        refine cond_i (fun hb3 => ?_) (fun hb3 => ?_)
        · replace h := ifT (c := (!sameStr v7002 v7006)) hb3 h
          try simp only [go_sem, Nat.reduceEqDiff, reduceIte, Nat.reduceAdd, Nat.reduceMul, Nat.reduceLeDiff, Nat.reduceLT]
          obtain rfl := Option.some.inj h
          simp only [go_sem, Nat.reduceEqDiff, reduceIte, Nat.reduceAdd, Nat.reduceMul, Nat.reduceLeDiff, Nat.reduceLT]
        · replace h := ifF (c := (!sameStr v7002 v7006)) hb3 h
          try simp only [go_sem, Nat.reduceEqDiff, reduceIte, Nat.reduceAdd, Nat.reduceMul, Nat.reduceLeDiff, Nat.reduceLT]
          refine seq_go ?_
          try simp only [go_sem, Nat.reduceEqDiff, reduceIte, Nat.reduceAdd, Nat.reduceMul, Nat.reduceLeDiff, Nat.reduceLT]
          have hj := posF_to rfl rfl (ih0 a0 a1 (IntKind.i64.wrap (p0_0 + 1)) _ h)
          refine lp_to hj (.one ⟨_, .done _, [], [], ?_⟩)
          clear hj
          try simp only [go_sem, Nat.reduceEqDiff, reduceIte, Nat.reduceAdd, Nat.reduceMul, Nat.reduceLeDiff, Nat.reduceLT]
      · replace h := ifF (c := (decide (p0_0 < ((List.length a0 : Nat) : Int)))) hb2 h
        try simp only [go_sem, Nat.reduceEqDiff, reduceIte, Nat.reduceAdd, Nat.reduceMul, Nat.reduceLeDiff, Nat.reduceLT]
        refine seq_go ?_
        try simp only [go_sem, Nat.reduceEqDiff, reduceIte, Nat.reduceAdd, Nat.reduceMul, Nat.reduceLeDiff, Nat.reduceLT]
        obtain rfl := Option.some.inj h
        simp only [go_sem, Nat.reduceEqDiff, reduceIte, Nat.reduceAdd, Nat.reduceMul, Nat.reduceLeDiff, Nat.reduceLT]
theorem g_Equal_sstring_l1_ok (n : Nat) : (∀ (a0 : List ByteArray) (a1 : List ByteArray) (p0_0 : Int) (r : Bool), g_Equal_sstring_l1 n a0 a1 p0_0 = some r → posF Try.prog Try.f240 [1, 1, 0, 1, 0] (.bool r) ⟨[(0, .ro (List.map strD a0)), (1, .ro (List.map strD a1)), (12, .int .i64 ((List.length a0 : Nat) : Int)), (13, .int .i64 p0_0)], [], []⟩) := (g_Equal_sstring_l1_all n)

theorem g_Equal_sstring_ok (a0 : List ByteArray) (a1 : List ByteArray) (r : Bool) (h : g_Equal_sstring a0 a1 = some r) : AC Try.prog 240 [.ro (List.map strD a0), .ro (List.map strD a1)] (.bool r) := by
  unfold g_Equal_sstring at h
  refine ac_fn mixed Try.func240 rfl rfl rfl (by kernel_rfl) (by kernel_rfl) ?_
  try simp only [go_sem, Nat.reduceEqDiff, reduceIte, Nat.reduceAdd, Nat.reduceMul, Nat.reduceLeDiff, Nat.reduceLT]
  refine cond_i (fun hb1 => ?_) (fun hb1 => ?_)
  · replace h := ifT (c := (!decide (((List.length a0 : Nat) : Int) = ((List.length a1 : Nat) : Int)))) hb1 h
    try simp only [go_sem, Nat.reduceEqDiff, reduceIte, Nat.reduceAdd, Nat.reduceMul, Nat.reduceLeDiff, Nat.reduceLT]
    obtain rfl := Option.some.inj h
    simp only [go_sem, Nat.reduceEqDiff, reduceIte, Nat.reduceAdd, Nat.reduceMul, Nat.reduceLeDiff, Nat.reduceLT]
  · replace h := ifF (c := (!decide (((List.length a0 : Nat) : Int) = ((List.length a1 : Nat) : Int)))) hb1 h
    try simp only [go_sem, Nat.reduceEqDiff, reduceIte, Nat.reduceAdd, Nat.reduceMul, Nat.reduceLeDiff, Nat.reduceLT]
    refine seq_go ?_
    try simp only [go_sem, Nat.reduceEqDiff, reduceIte, Nat.reduceAdd, Nat.reduceMul, Nat.reduceLeDiff, Nat.reduceLT]
    have hj := posF_to rfl rfl (g_Equal_sstring_l1_ok fuel a0 a1 0 _ h)
    refine loop_to hj (.one ⟨_, .done _, [], [], ?_⟩)
    clear hj
    try simp only [go_sem, Nat.reduceEqDiff, reduceIte, Nat.reduceAdd, Nat.reduceMul, Nat.reduceLeDiff, Nat.reduceLT]
theorem g_EqualFunc_simpl_Term_l1_all (n : Nat) : (∀ (a0 : List Term) (a1 : List Term) (p0_0 : Int) (f2 : (Term → Term → Option Bool)) (g2 : FuncId) (c2 : List AV) (s2 : Still c2) (h2 : ∀ (y0 : Term) (y1 : Term) (q : Bool), f2 y0 y1 = some q → AC Try.prog g2 (.agg (Term.avs y0) :: .agg (Term.avs y1) :: c2) (.bool q)) (r : Bool), g_EqualFunc_simpl_Term_l1 n a0 a1 p0_0 f2 = some r → posF Try.prog Try.f241 [1, 1, 0, 1, 0] (.bool r) ⟨[(1, .ro (List.map Term.ds a1)), (2, .fn g2 c2), (15, .ro (List.map Term.ds a0)), (16, .int .i64 ((List.length a0 : Nat) : Int)), (17, .int .i64 p0_0)], [], []⟩) := by
  induction n with
  | zero => exact ((fun _ _ _ _ _ _ _ _ _ h => by rw [g_EqualFunc_simpl_Term_l1] at h; cases h))
  | succ n ih =>
    have ih0 := ih
    · intro a0 a1 p0_0 f2 g2 c2 s2 h2 r h
      rw [g_EqualFunc_simpl_Term_l1] at h
      refine posF_of rfl rfl ?_
      try simp only [go_sem, Nat.reduceEqDiff, reduceIte, Nat.reduceAdd, Nat.reduceMul, Nat.reduceLeDiff, Nat.reduceLT, s2.k, s2.r, s2.c, s2.p]
      refine loop_i ?_
      try simp only [go_sem, Nat.reduceEqDiff, reduceIte, Nat.reduceAdd, Nat.reduceMul, Nat.reduceLeDiff, Nat.reduceLT, s2.k, s2.r, s2.c, s2.p]
      refine cond_i (fun hb2 => ?_) (fun hb2 => ?_)
      · replace h := ifT (c := (decide (p0_0 < ((List.length a0 : Nat) : Int)))) hb2 h
        try simp only [go_sem, Nat.reduceEqDiff, reduceIte, Nat.reduceAdd, Nat.reduceMul, Nat.reduceLeDiff, Nat.reduceLT, s2.k, s2.r, s2.c, s2.p]
        refine seq_go ?_
        try simp only [go_sem, Nat.reduceEqDiff, reduceIte, Nat.reduceAdd, Nat.reduceMul, Nat.reduceLeDiff, Nat.reduceLT, s2.k, s2.r, s2.c, s2.p]
        obtain ⟨v6001, hv6001, h⟩ := bindE h
        refine idx_m hv6001 (Term.ds_len _) ?_
        try simp only [go_sem, Nat.reduceEqDiff, reduceIte, Nat.reduceAdd, Nat.reduceMul, Nat.reduceLeDiff, Nat.reduceLT, s2.k, s2.r, s2.c, s2.p]
        obtain ⟨v7002, hv7002, h⟩ := bindE h
        refine idx_m hv7002 (Term.ds_len _) ?_
        try simp only [go_sem, Nat.reduceEqDiff, reduceIte, Nat.reduceAdd, Nat.reduceMul, Nat.reduceLeDiff, Nat.reduceLT, s2.k, s2.r, s2.c, s2.p]
        obtain ⟨v8003, hv8003, h⟩ := bindE h
        refine call_i (h2 _ _ _ hv8003) ?_
        try simp only [go_sem, Nat.reduceEqDiff, reduceIte, Nat.reduceAdd, Nat.reduceMul, Nat.reduceLeDiff, Nat.reduceLT, s2.k, s2.r, s2.c, s2.p]
        refine cond_i (fun hb3 => ?_) (fun hb3 => ?_)
        · replace h := ifT (c := (!v8003)) hb3 h
          try simp only [go_sem, Nat.reduceEqDiff, reduceIte, Nat.reduceAdd, Nat.reduceMul, Nat.reduceLeDiff, Nat.reduceLT, s2.k, s2.r, s2.c, s2.p]
          obtain rfl := Option.some.inj h
          simp only [go_sem, Nat.reduceEqDiff, reduceIte, Nat.reduceAdd, Nat.reduceMul, Nat.reduceLeDiff, Nat.reduceLT, s2.k, s2.r, s2.c, s2.p]
        · replace h := ifF (c := (!v8003)) hb3 h
          try simp only [go_sem, Nat.reduceEqDiff, reduceIte, Nat.reduceAdd, Nat.reduceMul, Nat.reduceLeDiff, Nat.reduceLT, s2.k, s2.r, s2.c, s2.p]
          refine seq_go ?_
          try simp only [go_sem, Nat.reduceEqDiff, reduceIte, Nat.reduceAdd, Nat.reduceMul, Nat.reduceLeDiff, Nat.reduceLT, s2.k, s2.r, s2.c, s2.p]
          have hj := posF_to rfl rfl (ih0 a0 a1 (IntKind.i64.wrap (p0_0 + 1)) f2 g2 c2 s2 h2 _ h)
          refine lp_to hj (.one ⟨_, .done _, [], [], ?_⟩)
          clear hj
          try simp only [go_sem, Nat.reduceEqDiff, reduceIte, Nat.reduceAdd, Nat.reduceMul, Nat.reduceLeDiff, Nat.reduceLT, s2.k, s2.r, s2.c, s2.p]
      · replace h := ifF (c := (decide (p0_0 < ((List.length a0 : Nat) : Int)))) hb2 h
        try simp only [go_sem, Nat.reduceEqDiff, reduceIte, Nat.reduceAdd, Nat.reduceMul, Nat.reduceLeDiff, Nat.reduceLT, s2.k, s2.r, s2.c, s2.p]
        refine seq_go ?_
        try simp only [go_sem, Nat.reduceEqDiff, reduceIte, Nat.reduceAdd, Nat.reduceMul, Nat.reduceLeDiff, Nat.reduceLT, s2.k, s2.r, s2.c, s2.p]
        obtain rfl := Option.some.inj h
        simp only [go_sem, Nat.reduceEqDiff, reduceIte, Nat.reduceAdd, Nat.reduceMul, Nat.reduceLeDiff, Nat.reduceLT, s2.k, s2.r, s2.c, s2.p]
theorem g_EqualFunc_simpl_Term_l1_ok (n : Nat) : (∀ (a0 : List Term) (a1 : List Term) (p0_0 : Int) (f2 : (Term → Term → Option Bool)) (g2 : FuncId) (c2 : List AV) (s2 : Still c2) (h2 : ∀ (y0 : Term) (y1 : Term) (q : Bool), f2 y0 y1 = some q → AC Try.prog g2 (.agg (Term.avs y0) :: .agg (Term.avs y1) :: c2) (.bool q)) (r : Bool), g_EqualFunc_simpl_Term_l1 n a0 a1 p0_0 f2 = some r → posF Try.prog Try.f241 [1, 1, 0, 1, 0] (.bool r) ⟨[(1, .ro (List.map Term.ds a1)), (2, .fn g2 c2), (15, .ro (List.map Term.ds a0)), (16, .int .i64 ((List.length a0 : Nat) : Int)), (17, .int .i64 p0_0)], [], []⟩) := (g_EqualFunc_simpl_Term_l1_all n)

theorem g_EqualFunc_simpl_Term_ok (a0 : List Term) (a1 : List Term) (f2 : (Term → Term → Option Bool)) (g2 : FuncId) (c2 : List AV) (s2 : Still c2) (h2 : ∀ (y0 : Term) (y1 : Term) (q : Bool), f2 y0 y1 = some q → AC Try.prog g2 (.agg (Term.avs y0) :: .agg (Term.avs y1) :: c2) (.bool q)) (r : Bool) (h : g_EqualFunc_simpl_Term a0 a1 f2 = some r) : AC Try.prog 241 [.ro (List.map Term.ds a0), .ro (List.map Term.ds a1), .fn g2 c2] (.bool r) := by
  unfold g_EqualFunc_simpl_Term at h
  refine ac_fn mixed Try.func241 rfl rfl rfl (by kernel_rfl) (by kernel_rfl) ?_
  try simp only [go_sem, Nat.reduceEqDiff, reduceIte, Nat.reduceAdd, Nat.reduceMul, Nat.reduceLeDiff, Nat.reduceLT, s2.k, s2.r, s2.c, s2.p]
  refine cond_i (fun hb1 => ?_) (fun hb1 => ?_)
  · replace h := ifT (c := (!decide (((List.length a0 : Nat) : Int) = ((List.length a1 : Nat) : Int)))) hb1 h
    try simp only [go_sem, Nat.reduceEqDiff, reduceIte, Nat.reduceAdd, Nat.reduceMul, Nat.reduceLeDiff, Nat.reduceLT, s2.k, s2.r, s2.c, s2.p]
    obtain rfl := Option.some.inj h
    simp only [go_sem, Nat.reduceEqDiff, reduceIte, Nat.reduceAdd, Nat.reduceMul, Nat.reduceLeDiff, Nat.reduceLT, s2.k, s2.r, s2.c, s2.p]
  · replace h := ifF (c := (!decide (((List.length a0 : Nat) : Int) = ((List.length a1 : Nat) : Int)))) hb1 h
    try simp only [go_sem, Nat.reduceEqDiff, reduceIte, Nat.reduceAdd, Nat.reduceMul, Nat.reduceLeDiff, Nat.reduceLT, s2.k, s2.r, s2.c, s2.p]
    refine seq_go ?_
    try simp only [go_sem, Nat.reduceEqDiff, reduceIte, Nat.reduceAdd, Nat.reduceMul, Nat.reduceLeDiff, Nat.reduceLT, s2.k, s2.r, s2.c, s2.p]
    have hj := posF_to rfl rfl (g_EqualFunc_simpl_Term_l1_ok fuel a0 a1 0 f2 g2 c2 s2 h2 _ h)
    refine loop_to hj (.one ⟨_, .done _, [], [], ?_⟩)
    clear hj
    try simp only [go_sem, Nat.reduceEqDiff, reduceIte, Nat.reduceAdd, Nat.reduceMul, Nat.reduceLeDiff, Nat.reduceLT, s2.k, s2.r, s2.c, s2.p]
theorem i_SameTerm_all (n : Nat) : (∀ (a0 : Term) (a1 : Term) (r : Bool), i_SameTerm n a0 a1 = some r → AC Try.prog 170 [.agg (Term.avs a0), .agg (Term.avs a1)] (.bool r)) := by
  induction n with
  | zero => exact ((fun _ _ _ h => by rw [i_SameTerm] at h; cases h))
  | succ n ih =>
    have ih0 := ih
    · intro a0 a1 r h
      rw [i_SameTerm] at h
      refine ac_fn mixed Try.func170 rfl rfl rfl (by kernel_rfl) (by kernel_rfl) ?_
      try simp only [go_sem, Nat.reduceEqDiff, reduceIte, Nat.reduceAdd, Nat.reduceMul, Nat.reduceLeDiff, Nat.reduceLT]
      refine cond_i (fun hb1 => ?_) (fun hb1 => ?_)
      · replace h := ifT (c := (decide (a0.kind = a1.kind))) hb1 h
        try simp only [go_sem, Nat.reduceEqDiff, reduceIte, Nat.reduceAdd, Nat.reduceMul, Nat.reduceLeDiff, Nat.reduceLT]
        refine cond_i (fun hb2 => ?_) (fun hb2 => ?_)
        · replace h := ifT (c := (decide (a0.num = a1.num))) hb2 h
          try simp only [go_sem, Nat.reduceEqDiff, reduceIte, Nat.reduceAdd, Nat.reduceMul, Nat.reduceLeDiff, Nat.reduceLT]
          refine cond_i (fun hb3 => ?_) (fun hb3 => ?_)
          · replace h := ifT (c := (sameStr a0.name a1.name)) hb3 h
            try simp only [go_sem, Nat.reduceEqDiff, reduceIte, Nat.reduceAdd, Nat.reduceMul, Nat.reduceLeDiff, Nat.reduceLT]
            obtain ⟨v2024, hv2024, h⟩ := bindE h
            refine call_i (i_SameType_ok fuel _ _ _ hv2024) ?_
            try simp only [go_sem, Nat.reduceEqDiff, reduceIte, Nat.reduceAdd, Nat.reduceMul, Nat.reduceLeDiff, Nat.reduceLT]
            refine cond_i (fun hb4 => ?_) (fun hb4 => ?_)
            · replace h := ifT (c := v2024) hb4 h
              try simp only [go_sem, Nat.reduceEqDiff, reduceIte, Nat.reduceAdd, Nat.reduceMul, Nat.reduceLeDiff, Nat.reduceLT]
              obtain ⟨v2031, hv2031, h⟩ := bindE h
              refine call_i (g_Equal_sstring_ok _ _ _ hv2031) ?_
              try simp only [go_sem, Nat.reduceEqDiff, reduceIte, Nat.reduceAdd, Nat.reduceMul, Nat.reduceLeDiff, Nat.reduceLT]
              refine cond_i (fun hb5 => ?_) (fun hb5 => ?_)
              · replace h := ifT (c := v2031) hb5 h
                try simp only [go_sem, Nat.reduceEqDiff, reduceIte, Nat.reduceAdd, Nat.reduceMul, Nat.reduceLeDiff, Nat.reduceLT]
                obtain ⟨v2038, hv2038, h⟩ := bindE h
                refine call_i (g_EqualFunc_simpl_Term_ok _ _ _ 170 [] (Still.of rfl) (fun y0 y1 q hq => ih0 y0 y1  q hq) _ hv2038) ?_
                try simp only [go_sem, Nat.reduceEqDiff, reduceIte, Nat.reduceAdd, Nat.reduceMul, Nat.reduceLeDiff, Nat.reduceLT]
                refine seq_go ?_
                try simp only [go_sem, Nat.reduceEqDiff, reduceIte, Nat.reduceAdd, Nat.reduceMul, Nat.reduceLeDiff, Nat.reduceLT]
                obtain rfl := Option.some.inj h
                simp only [go_sem, Nat.reduceEqDiff, reduceIte, Nat.reduceAdd, Nat.reduceMul, Nat.reduceLeDiff, Nat.reduceLT]
              · replace h := ifF (c := v2031) hb5 h
                try simp only [go_sem, Nat.reduceEqDiff, reduceIte, Nat.reduceAdd, Nat.reduceMul, Nat.reduceLeDiff, Nat.reduceLT]
                refine seq_go ?_
                try simp only [go_sem, Nat.reduceEqDiff, reduceIte, Nat.reduceAdd, Nat.reduceMul, Nat.reduceLeDiff, Nat.reduceLT]
                obtain rfl := Option.some.inj h
                simp only [go_sem, Nat.reduceEqDiff, reduceIte, Nat.reduceAdd, Nat.reduceMul, Nat.reduceLeDiff, Nat.reduceLT]
            · replace h := ifF (c := v2024) hb4 h
              try simp only [go_sem, Nat.reduceEqDiff, reduceIte, Nat.reduceAdd, Nat.reduceMul, Nat.reduceLeDiff, Nat.reduceLT]
              refine seq_go ?_
              try simp only [go_sem, Nat.reduceEqDiff, reduceIte, Nat.reduceAdd, Nat.reduceMul, Nat.reduceLeDiff, Nat.reduceLT]
              obtain rfl := Option.some.inj h
              simp only [go_sem, Nat.reduceEqDiff, reduceIte, Nat.reduceAdd, Nat.reduceMul, Nat.reduceLeDiff, Nat.reduceLT]
          · replace h := ifF (c := (sameStr a0.name a1.name)) hb3 h
            try simp only [go_sem, Nat.reduceEqDiff, reduceIte, Nat.reduceAdd, Nat.reduceMul, Nat.reduceLeDiff, Nat.reduceLT]
            refine seq_go ?_
            try simp only [go_sem, Nat.reduceEqDiff, reduceIte, Nat.reduceAdd, Nat.reduceMul, Nat.reduceLeDiff, Nat.reduceLT]
            obtain rfl := Option.some.inj h
            simp only [go_sem, Nat.reduceEqDiff, reduceIte, Nat.reduceAdd, Nat.reduceMul, Nat.reduceLeDiff, Nat.reduceLT]
        · replace h := ifF (c := (decide (a0.num = a1.num))) hb2 h
          try simp only [go_sem, Nat.reduceEqDiff, reduceIte, Nat.reduceAdd, Nat.reduceMul, Nat.reduceLeDiff, Nat.reduceLT]
          refine seq_go ?_
          try simp only [go_sem, Nat.reduceEqDiff, reduceIte, Nat.reduceAdd, Nat.reduceMul, Nat.reduceLeDiff, Nat.reduceLT]
          obtain rfl := Option.some.inj h
          simp only [go_sem, Nat.reduceEqDiff, reduceIte, Nat.reduceAdd, Nat.reduceMul, Nat.reduceLeDiff, Nat.reduceLT]
      · replace h := ifF (c := (decide (a0.kind = a1.kind))) hb1 h
        try simp only [go_sem, Nat.reduceEqDiff, reduceIte, Nat.reduceAdd, Nat.reduceMul, Nat.reduceLeDiff, Nat.reduceLT]
        refine seq_go ?_
        try simp only [go_sem, Nat.reduceEqDiff, reduceIte, Nat.reduceAdd, Nat.reduceMul, Nat.reduceLeDiff, Nat.reduceLT]
        obtain rfl := Option.some.inj h
        simp only [go_sem, Nat.reduceEqDiff, reduceIte, Nat.reduceAdd, Nat.reduceMul, Nat.reduceLeDiff, Nat.reduceLT]
theorem i_SameTerm_ok (n : Nat) : (∀ (a0 : Term) (a1 : Term) (r : Bool), i_SameTerm n a0 a1 = some r → AC Try.prog 170 [.agg (Term.avs a0), .agg (Term.avs a1)] (.bool r)) := (i_SameTerm_all n)

theorem i_SameProgram_1_ok (a0 : Def) (a1 : Def) (r : Bool) (h : i_SameProgram_1 a0 a1 = some r) : AC Try.prog 168 [.agg (Def.avs a0), .agg (Def.avs a1)] (.bool r) := by
  unfold i_SameProgram_1 at h
  refine ac_fn mixed Try.func168 rfl rfl rfl (by kernel_rfl) (by kernel_rfl) ?_
  try simp only [go_sem, Nat.reduceEqDiff, reduceIte, Nat.reduceAdd, Nat.reduceMul, Nat.reduceLeDiff, Nat.reduceLT]
  refine cond_i (fun hb1 => ?_) (fun hb1 => ?_)
  · replace h := ifT (c := (sameStr a0.name a1.name)) hb1 h
    try simp only [go_sem, Nat.reduceEqDiff, reduceIte, Nat.reduceAdd, Nat.reduceMul, Nat.reduceLeDiff, Nat.reduceLT]
    obtain ⟨v2010, hv2010, h⟩ := bindE h
    refine call_i (i_SameType_ok fuel _ _ _ hv2010) ?_
    try simp only [go_sem, Nat.reduceEqDiff, reduceIte, Nat.reduceAdd, Nat.reduceMul, Nat.reduceLeDiff, Nat.reduceLT]
    refine cond_i (fun hb2 => ?_) (fun hb2 => ?_)
    · replace h := ifT (c := v2010) hb2 h
      try simp only [go_sem, Nat.reduceEqDiff, reduceIte, Nat.reduceAdd, Nat.reduceMul, Nat.reduceLeDiff, Nat.reduceLT]
      obtain ⟨v2017, hv2017, h⟩ := bindE h
      refine call_i (i_SameTerm_ok fuel _ _ _ hv2017) ?_
      try simp only [go_sem, Nat.reduceEqDiff, reduceIte, Nat.reduceAdd, Nat.reduceMul, Nat.reduceLeDiff, Nat.reduceLT]
      refine seq_go ?_
      try simp only [go_sem, Nat.reduceEqDiff, reduceIte, Nat.reduceAdd, Nat.reduceMul, Nat.reduceLeDiff, Nat.reduceLT]
      obtain rfl := Option.some.inj h
      simp only [go_sem, Nat.reduceEqDiff, reduceIte, Nat.reduceAdd, Nat.reduceMul, Nat.reduceLeDiff, Nat.reduceLT]
    · replace h := ifF (c := v2010) hb2 h
      try simp only [go_sem, Nat.reduceEqDiff, reduceIte, Nat.reduceAdd, Nat.reduceMul, Nat.reduceLeDiff, Nat.reduceLT]
      refine seq_go ?_
      try simp only [go_sem, Nat.reduceEqDiff, reduceIte, Nat.reduceAdd, Nat.reduceMul, Nat.reduceLeDiff, Nat.reduceLT]
      obtain rfl := Option.some.inj h
      simp only [go_sem, Nat.reduceEqDiff, reduceIte, Nat.reduceAdd, Nat.reduceMul, Nat.reduceLeDiff, Nat.reduceLT]
  · replace h := ifF (c := (sameStr a0.name a1.name)) hb1 h
    try simp only [go_sem, Nat.reduceEqDiff, reduceIte, Nat.reduceAdd, Nat.reduceMul, Nat.reduceLeDiff, Nat.reduceLT]
    refine seq_go ?_
    try simp only [go_sem, Nat.reduceEqDiff, reduceIte, Nat.reduceAdd, Nat.reduceMul, Nat.reduceLeDiff, Nat.reduceLT]
    obtain rfl := Option.some.inj h
    simp only [go_sem, Nat.reduceEqDiff, reduceIte, Nat.reduceAdd, Nat.reduceMul, Nat.reduceLeDiff, Nat.reduceLT]
theorem i_SameProgram_ok (a0 : TProgram) (a1 : TProgram) (r : Bool) (h : i_SameProgram a0 a1 = some r) : AC Try.prog 92 [.agg (TProgram.avs a0), .agg (TProgram.avs a1)] (.bool r) := by
  unfold i_SameProgram at h
  refine ac_fn mixed Try.func92 rfl rfl rfl (by kernel_rfl) (by kernel_rfl) ?_
  try simp only [go_sem, Nat.reduceEqDiff, reduceIte, Nat.reduceAdd, Nat.reduceMul, Nat.reduceLeDiff, Nat.reduceLT]
  obtain ⟨v2004, hv2004, h⟩ := bindE h
  refine call_i (g_EqualFunc_simpl_Data_ok _ _ _ 166 [] (Still.of rfl) (fun y0 y1 q hq => i_sameData_ok y0 y1  q hq) _ hv2004) ?_
  try simp only [go_sem, Nat.reduceEqDiff, reduceIte, Nat.reduceAdd, Nat.reduceMul, Nat.reduceLeDiff, Nat.reduceLT]
  refine cond_i (fun hb1 => ?_) (fun hb1 => ?_)
  · replace h := ifT (c := v2004) hb1 h
    try simp only [go_sem, Nat.reduceEqDiff, reduceIte, Nat.reduceAdd, Nat.reduceMul, Nat.reduceLeDiff, Nat.reduceLT]
    obtain ⟨v2010, hv2010, h⟩ := bindE h
    refine call_i (g_EqualFunc_simpl_Def_ok _ _ _ 168 [] (Still.of rfl) (fun y0 y1 q hq => i_SameProgram_1_ok y0 y1  q hq) _ hv2010) ?_
    try simp only [go_sem, Nat.reduceEqDiff, reduceIte, Nat.reduceAdd, Nat.reduceMul, Nat.reduceLeDiff, Nat.reduceLT]
    refine seq_go ?_
    try simp only [go_sem, Nat.reduceEqDiff, reduceIte, Nat.reduceAdd, Nat.reduceMul, Nat.reduceLeDiff, Nat.reduceLT]
    obtain rfl := Option.some.inj h
    simp only [go_sem, Nat.reduceEqDiff, reduceIte, Nat.reduceAdd, Nat.reduceMul, Nat.reduceLeDiff, Nat.reduceLT]
  · replace h := ifF (c := v2004) hb1 h
    try simp only [go_sem, Nat.reduceEqDiff, reduceIte, Nat.reduceAdd, Nat.reduceMul, Nat.reduceLeDiff, Nat.reduceLT]
    refine seq_go ?_
    try simp only [go_sem, Nat.reduceEqDiff, reduceIte, Nat.reduceAdd, Nat.reduceMul, Nat.reduceLeDiff, Nat.reduceLT]
    obtain rfl := Option.some.inj h
    simp only [go_sem, Nat.reduceEqDiff, reduceIte, Nat.reduceAdd, Nat.reduceMul, Nat.reduceLeDiff, Nat.reduceLT]
theorem g_Equal_sint64_l1_all (n : Nat) : (∀ (a0 : List Int) (a1 : List Int) (p0_0 : Int) (r : Bool), g_Equal_sint64_l1 n a0 a1 p0_0 = some r → posF Try.prog Try.f93 [1, 1, 0, 1, 0] (.bool r) ⟨[(0, .ro (List.map i64D a0)), (1, .ro (List.map i64D a1)), (12, .int .i64 ((List.length a0 : Nat) : Int)), (13, .int .i64 p0_0)], [], []⟩) := by
  induction n with
  | zero => exact ((fun _ _ _ _ h => by rw [g_Equal_sint64_l1] at h; cases h))
  | succ n ih =>
    have ih0 := ih
    · intro a0 a1 p0_0 r h
      rw [g_Equal_sint64_l1] at h
      refine posF_of rfl rfl ?_
      try simp only [go_sem, Nat.reduceEqDiff, reduceIte, Nat.reduceAdd, Nat.reduceMul, Nat.reduceLeDiff, Nat.reduceLT]
      refine loop_i ?_
      try simp only [go_sem, Nat.reduceEqDiff, reduceIte, Nat.reduceAdd, Nat.reduceMul, Nat.reduceLeDiff, Nat.reduceLT]
      refine cond_i (fun hb2 => ?_) (fun hb2 => ?_)
      · replace h := ifT (c := (decide (p0_0 < ((List.length a0 : Nat) : Int)))) hb2 h
        try simp only [go_sem, Nat.reduceEqDiff, reduceIte, Nat.reduceAdd, Nat.reduceMul, Nat.reduceLeDiff, Nat.reduceLT]
        refine seq_go ?_
        try simp only [go_sem, Nat.reduceEqDiff, reduceIte, Nat.reduceAdd, Nat.reduceMul, Nat.reduceLeDiff, Nat.reduceLT]
        obtain ⟨v7002, hv7002, h⟩ := bindE h
        refine idx_m hv7002 rfl ?_
        try simp only [go_sem, Nat.reduceEqDiff, reduceIte, Nat.reduceAdd, Nat.reduceMul, Nat.reduceLeDiff, Nat.reduceLT]
        obtain ⟨v7006, hv7006, h⟩ := bindE h
        refine idx_m hv7006 rfl ?_
        try simp only [go_sem, Nat.reduceEqDiff, reduceIte, Nat.reduceAdd, Nat.reduceMul, Nat.reduceLeDiff, Nat.reduceLT]
        refine cond_i (fun hb3 => ?_) (fun hb3 => ?_)
        · replace h := ifT (c := (!decide (v7002 = v7006))) hb3 h
          try simp only [go_sem, Nat.reduceEqDiff, reduceIte, Nat.reduceAdd, Nat.reduceMul, Nat.reduceLeDiff, Nat.reduceLT]
          obtain rfl := Option.some.inj h
          simp only [go_sem, Nat.reduceEqDiff, reduceIte, Nat.reduceAdd, Nat.reduceMul, Nat.reduceLeDiff, Nat.reduceLT]
        · replace h := ifF (c := (!decide (v7002 = v7006))) hb3 h
          try simp only [go_sem, Nat.reduceEqDiff, reduceIte, Nat.reduceAdd, Nat.reduceMul, Nat.reduceLeDiff, Nat.reduceLT]
          refine seq_go ?_
          try simp only [go_sem, Nat.reduceEqDiff, reduceIte, Nat.reduceAdd, Nat.reduceMul, Nat.reduceLeDiff, Nat.reduceLT]
          have hj := posF_to rfl rfl (ih0 a0 a1 (IntKind.i64.wrap (p0_0 + 1)) _ h)
          refine lp_to hj (.one ⟨_, .done _, [], [], ?_⟩)
          clear hj
          try simp only [go_sem, Nat.reduceEqDiff, reduceIte, Nat.reduceAdd, Nat.reduceMul, Nat.reduceLeDiff, Nat.reduceLT]
      · replace h := ifF (c := (decide (p0_0 < ((List.length a0 : Nat) : Int)))) hb2 h
        try simp only [go_sem, Nat.reduceEqDiff, reduceIte, Nat.reduceAdd, Nat.reduceMul, Nat.reduceLeDiff, Nat.reduceLT]
        refine seq_go ?_
        try simp only [go_sem, Nat.reduceEqDiff, reduceIte, Nat.reduceAdd, Nat.reduceMul, Nat.reduceLeDiff, Nat.reduceLT]
        obtain rfl := Option.some.inj h
        simp only [go_sem, Nat.reduceEqDiff, reduceIte, Nat.reduceAdd, Nat.reduceMul, Nat.reduceLeDiff, Nat.reduceLT]
theorem g_Equal_sint64_l1_ok (n : Nat) : (∀ (a0 : List Int) (a1 : List Int) (p0_0 : Int) (r : Bool), g_Equal_sint64_l1 n a0 a1 p0_0 = some r → posF Try.prog Try.f93 [1, 1, 0, 1, 0] (.bool r) ⟨[(0, .ro (List.map i64D a0)), (1, .ro (List.map i64D a1)), (12, .int .i64 ((List.length a0 : Nat) : Int)), (13, .int .i64 p0_0)], [], []⟩) := (g_Equal_sint64_l1_all n)

theorem g_Equal_sint64_ok (a0 : List Int) (a1 : List Int) (r : Bool) (h : g_Equal_sint64 a0 a1 = some r) : AC Try.prog 93 [.ro (List.map i64D a0), .ro (List.map i64D a1)] (.bool r) := by
  unfold g_Equal_sint64 at h
  refine ac_fn mixed Try.func93 rfl rfl rfl (by kernel_rfl) (by kernel_rfl) ?_
  try simp only [go_sem, Nat.reduceEqDiff, reduceIte, Nat.reduceAdd, Nat.reduceMul, Nat.reduceLeDiff, Nat.reduceLT]
  refine cond_i (fun hb1 => ?_) (fun hb1 => ?_)
  · replace h := ifT (c := (!decide (((List.length a0 : Nat) : Int) = ((List.length a1 : Nat) : Int)))) hb1 h
    try simp only [go_sem, Nat.reduceEqDiff, reduceIte, Nat.reduceAdd, Nat.reduceMul, Nat.reduceLeDiff, Nat.reduceLT]
    obtain rfl := Option.some.inj h
    simp only [go_sem, Nat.reduceEqDiff, reduceIte, Nat.reduceAdd, Nat.reduceMul, Nat.reduceLeDiff, Nat.reduceLT]
  · replace h := ifF (c := (!decide (((List.length a0 : Nat) : Int) = ((List.length a1 : Nat) : Int)))) hb1 h
    try simp only [go_sem, Nat.reduceEqDiff, reduceIte, Nat.reduceAdd, Nat.reduceMul, Nat.reduceLeDiff, Nat.reduceLT]
    refine seq_go ?_
    try simp only [go_sem, Nat.reduceEqDiff, reduceIte, Nat.reduceAdd, Nat.reduceMul, Nat.reduceLeDiff, Nat.reduceLT]
    have hj := posF_to rfl rfl (g_Equal_sint64_l1_ok fuel a0 a1 0 _ h)
    refine loop_to hj (.one ⟨_, .done _, [], [], ?_⟩)
    clear hj
    try simp only [go_sem, Nat.reduceEqDiff, reduceIte, Nat.reduceAdd, Nat.reduceMul, Nat.reduceLeDiff, Nat.reduceLT]
theorem i_SameDesk_ok (a0 : Desk) (a1 : Desk) (r : Bool) (h : i_SameDesk a0 a1 = some r) : AC Try.prog 34 [.agg (Desk.avs a0), .agg (Desk.avs a1)] (.bool r) := by
  unfold i_SameDesk at h
  refine ac_fn mixed Try.func34 rfl rfl rfl (by kernel_rfl) (by kernel_rfl) ?_
  try simp only [go_sem, Nat.reduceEqDiff, reduceIte, Nat.reduceAdd, Nat.reduceMul, Nat.reduceLeDiff, Nat.reduceLT]
  refine cond_i (fun hb1 => ?_) (fun hb1 => ?_)
  · replace h := ifT (c := (a0.loaded == a1.loaded)) hb1 h
    try simp only [go_sem, Nat.reduceEqDiff, reduceIte, Nat.reduceAdd, Nat.reduceMul, Nat.reduceLeDiff, Nat.reduceLT]
    obtain ⟨v2010, hv2010, h⟩ := bindE h
    refine call_i (i_SameProgram_ok _ _ _ hv2010) ?_
    try simp only [go_sem, Nat.reduceEqDiff, reduceIte, Nat.reduceAdd, Nat.reduceMul, Nat.reduceLeDiff, Nat.reduceLT]
    refine cond_i (fun hb2 => ?_) (fun hb2 => ?_)
    · replace h := ifT (c := v2010) hb2 h
      try simp only [go_sem, Nat.reduceEqDiff, reduceIte, Nat.reduceAdd, Nat.reduceMul, Nat.reduceLeDiff, Nat.reduceLT]
      obtain ⟨v2017, hv2017, h⟩ := bindE h
      refine call_i (g_Equal_sint64_ok _ _ _ hv2017) ?_
      try simp only [go_sem, Nat.reduceEqDiff, reduceIte, Nat.reduceAdd, Nat.reduceMul, Nat.reduceLeDiff, Nat.reduceLT]
      refine cond_i (fun hb3 => ?_) (fun hb3 => ?_)
      · replace h := ifT (c := v2017) hb3 h
        try simp only [go_sem, Nat.reduceEqDiff, reduceIte, Nat.reduceAdd, Nat.reduceMul, Nat.reduceLeDiff, Nat.reduceLT]
        refine seq_go ?_
        try simp only [go_sem, Nat.reduceEqDiff, reduceIte, Nat.reduceAdd, Nat.reduceMul, Nat.reduceLeDiff, Nat.reduceLT]
        obtain rfl := Option.some.inj h
        simp only [go_sem, Nat.reduceEqDiff, reduceIte, Nat.reduceAdd, Nat.reduceMul, Nat.reduceLeDiff, Nat.reduceLT]
      · replace h := ifF (c := v2017) hb3 h
        try simp only [go_sem, Nat.reduceEqDiff, reduceIte, Nat.reduceAdd, Nat.reduceMul, Nat.reduceLeDiff, Nat.reduceLT]
        refine seq_go ?_
        try simp only [go_sem, Nat.reduceEqDiff, reduceIte, Nat.reduceAdd, Nat.reduceMul, Nat.reduceLeDiff, Nat.reduceLT]
        obtain rfl := Option.some.inj h
        simp only [go_sem, Nat.reduceEqDiff, reduceIte, Nat.reduceAdd, Nat.reduceMul, Nat.reduceLeDiff, Nat.reduceLT]
    · replace h := ifF (c := v2010) hb2 h
      try simp only [go_sem, Nat.reduceEqDiff, reduceIte, Nat.reduceAdd, Nat.reduceMul, Nat.reduceLeDiff, Nat.reduceLT]
      refine seq_go ?_
      try simp only [go_sem, Nat.reduceEqDiff, reduceIte, Nat.reduceAdd, Nat.reduceMul, Nat.reduceLeDiff, Nat.reduceLT]
      obtain rfl := Option.some.inj h
      simp only [go_sem, Nat.reduceEqDiff, reduceIte, Nat.reduceAdd, Nat.reduceMul, Nat.reduceLeDiff, Nat.reduceLT]
  · replace h := ifF (c := (a0.loaded == a1.loaded)) hb1 h
    try simp only [go_sem, Nat.reduceEqDiff, reduceIte, Nat.reduceAdd, Nat.reduceMul, Nat.reduceLeDiff, Nat.reduceLT]
    refine seq_go ?_
    try simp only [go_sem, Nat.reduceEqDiff, reduceIte, Nat.reduceAdd, Nat.reduceMul, Nat.reduceLeDiff, Nat.reduceLT]
    obtain rfl := Option.some.inj h
    simp only [go_sem, Nat.reduceEqDiff, reduceIte, Nat.reduceAdd, Nat.reduceMul, Nat.reduceLeDiff, Nat.reduceLT]
theorem l_eqType_all (n : Nat) : (∀ (a0 : TType) (a1 : TType) (r : Bool), l_eqType n a0 a1 = some r → AC Try.prog 298 [.agg (TType.avs a0), .agg (TType.avs a1)] (.bool r)) ∧
    (∀ (a0 : List TType) (a1 : List TType) (r : Bool), l_eqTypeS n a0 a1 = some r → AC Try.prog 345 [.ro (List.map TType.ds a0), .ro (List.map TType.ds a1)] (.bool r)) ∧
    (∀ (a0 : List TType) (a1 : List TType) (p0_0 : Int) (r : Bool), l_eqTypeS_l1 n a0 a1 p0_0 = some r → posF Try.prog Try.f345 [1, 1, 0, 1, 0] (.bool r) ⟨[(0, .ro (List.map TType.ds a0)), (1, .ro (List.map TType.ds a1)), (5, .int .i64 p0_0)], [], []⟩) := by
  induction n with
  | zero => exact ⟨(fun _ _ _ h => by rw [l_eqType] at h; cases h), (fun _ _ _ h => by rw [l_eqTypeS] at h; cases h), (fun _ _ _ _ h => by rw [l_eqTypeS_l1] at h; cases h)⟩
  | succ n ih =>
    obtain ⟨ih0, ih1, ih2⟩ := ih
    refine ⟨?_, ?_, ?_⟩
    · intro a0 a1 r h
      rw [l_eqType] at h
      refine ac_fn mixed Try.func298 rfl rfl rfl (by kernel_rfl) (by kernel_rfl) ?_
      try simp only [go_sem, Nat.reduceEqDiff, reduceIte, Nat.reduceAdd, Nat.reduceMul, Nat.reduceLeDiff, Nat.reduceLT]
      refine cond_i (fun hb1 => ?_) (fun hb1 => ?_)
      · replace h := ifT (c := (!decide (a0.kind = a1.kind))) hb1 h
        try simp only [go_sem, Nat.reduceEqDiff, reduceIte, Nat.reduceAdd, Nat.reduceMul, Nat.reduceLeDiff, Nat.reduceLT]
        obtain rfl := Option.some.inj h
        simp only [go_sem, Nat.reduceEqDiff, reduceIte, Nat.reduceAdd, Nat.reduceMul, Nat.reduceLeDiff, Nat.reduceLT]
      · replace h := ifF (c := (!decide (a0.kind = a1.kind))) hb1 h
        try simp only [go_sem, Nat.reduceEqDiff, reduceIte, Nat.reduceAdd, Nat.reduceMul, Nat.reduceLeDiff, Nat.reduceLT]
        refine seq_go ?_
        try simp only [go_sem, Nat.reduceEqDiff, reduceIte, Nat.reduceAdd, Nat.reduceMul, Nat.reduceLeDiff, Nat.reduceLT]
        refine cond_i (fun hb2 => ?_) (fun hb2 => ?_)
        · replace h := ifT (c := (!sameStr a0.name a1.name)) hb2 h
          try simp only [go_sem, Nat.reduceEqDiff, reduceIte, Nat.reduceAdd, Nat.reduceMul, Nat.reduceLeDiff, Nat.reduceLT]
          obtain rfl := Option.some.inj h
          simp only [go_sem, Nat.reduceEqDiff, reduceIte, Nat.reduceAdd, Nat.reduceMul, Nat.reduceLeDiff, Nat.reduceLT]
        · replace h := ifF (c := (!sameStr a0.name a1.name)) hb2 h
          try simp only [go_sem, Nat.reduceEqDiff, reduceIte, Nat.reduceAdd, Nat.reduceMul, Nat.reduceLeDiff, Nat.reduceLT]
          refine seq_go ?_
          try simp only [go_sem, Nat.reduceEqDiff, reduceIte, Nat.reduceAdd, Nat.reduceMul, Nat.reduceLeDiff, Nat.reduceLT]
          obtain ⟨v6004, hv6004, h⟩ := bindE h
          refine call_i (ih1 _ _ _ hv6004) ?_
          try simp only [go_sem, Nat.reduceEqDiff, reduceIte, Nat.reduceAdd, Nat.reduceMul, Nat.reduceLeDiff, Nat.reduceLT]
          refine cond_i (fun hb3 => ?_) (fun hb3 => ?_)
          · replace h := ifT (c := (!v6004)) hb3 h
            try simp only [go_sem, Nat.reduceEqDiff, reduceIte, Nat.reduceAdd, Nat.reduceMul, Nat.reduceLeDiff, Nat.reduceLT]
            obtain rfl := Option.some.inj h
            simp only [go_sem, Nat.reduceEqDiff, reduceIte, Nat.reduceAdd, Nat.reduceMul, Nat.reduceLeDiff, Nat.reduceLT]
          · replace h := ifF (c := (!v6004)) hb3 h
            try simp only [go_sem, Nat.reduceEqDiff, reduceIte, Nat.reduceAdd, Nat.reduceMul, Nat.reduceLeDiff, Nat.reduceLT]
            refine seq_go ?_
            try simp only [go_sem, Nat.reduceEqDiff, reduceIte, Nat.reduceAdd, Nat.reduceMul, Nat.reduceLeDiff, Nat.reduceLT]
            obtain rfl := Option.some.inj h
            simp only [go_sem, Nat.reduceEqDiff, reduceIte, Nat.reduceAdd, Nat.reduceMul, Nat.reduceLeDiff, Nat.reduceLT]
    · intro a0 a1 r h
      rw [l_eqTypeS] at h
      refine ac_fn mixed Try.func345 rfl rfl rfl (by kernel_rfl) (by kernel_rfl) ?_
      try simp only [go_sem, Nat.reduceEqDiff, reduceIte, Nat.reduceAdd, Nat.reduceMul, Nat.reduceLeDiff, Nat.reduceLT]
      refine cond_i (fun hb1 => ?_) (fun hb1 => ?_)
      · replace h := ifT (c := (!decide (((List.length a0 : Nat) : Int) = ((List.length a1 : Nat) : Int)))) hb1 h
        try simp only [go_sem, Nat.reduceEqDiff, reduceIte, Nat.reduceAdd, Nat.reduceMul, Nat.reduceLeDiff, Nat.reduceLT]
        obtain rfl := Option.some.inj h
        simp only [go_sem, Nat.reduceEqDiff, reduceIte, Nat.reduceAdd, Nat.reduceMul, Nat.reduceLeDiff, Nat.reduceLT]
      · replace h := ifF (c := (!decide (((List.length a0 : Nat) : Int) = ((List.length a1 : Nat) : Int)))) hb1 h
        try simp only [go_sem, Nat.reduceEqDiff, reduceIte, Nat.reduceAdd, Nat.reduceMul, Nat.reduceLeDiff, Nat.reduceLT]
        refine seq_go ?_
        try simp only [go_sem, Nat.reduceEqDiff, reduceIte, Nat.reduceAdd, Nat.reduceMul, Nat.reduceLeDiff, Nat.reduceLT]
        have hj := posF_to rfl rfl (ih2 a0 a1 0 _ h)
        refine loop_to hj (.one ⟨_, .done _, [], [], ?_⟩)
        clear hj
        try simp only [go_sem, Nat.reduceEqDiff, reduceIte, Nat.reduceAdd, Nat.reduceMul, Nat.reduceLeDiff, Nat.reduceLT]
    · intro a0 a1 p0_0 r h
      rw [l_eqTypeS_l1] at h
      refine posF_of rfl rfl ?_
      try simp only [go_sem, Nat.reduceEqDiff, reduceIte, Nat.reduceAdd, Nat.reduceMul, Nat.reduceLeDiff, Nat.reduceLT]
      refine loop_i ?_
      try simp only [go_sem, Nat.reduceEqDiff, reduceIte, Nat.reduceAdd, Nat.reduceMul, Nat.reduceLeDiff, Nat.reduceLT]
      refine cond_i (fun hb2 => ?_) (fun hb2 => ?_)
      · replace h := ifT (c := (decide (p0_0 < ((List.length a0 : Nat) : Int)))) hb2 h
        try simp only [go_sem, Nat.reduceEqDiff, reduceIte, Nat.reduceAdd, Nat.reduceMul, Nat.reduceLeDiff, Nat.reduceLT]
        refine seq_go ?_
        try simp only [go_sem, Nat.reduceEqDiff, reduceIte, Nat.reduceAdd, Nat.reduceMul, Nat.reduceLeDiff, Nat.reduceLT]
        obtain ⟨v7002, hv7002, h⟩ := bindE h
        refine idx_m hv7002 (TType.ds_len _) ?_
        try simp only [go_sem, Nat.reduceEqDiff, reduceIte, Nat.reduceAdd, Nat.reduceMul, Nat.reduceLeDiff, Nat.reduceLT]
        obtain ⟨v7006, hv7006, h⟩ := bindE h
        refine idx_m hv7006 (TType.ds_len _) ?_
        try simp only [go_sem, Nat.reduceEqDiff, reduceIte, Nat.reduceAdd, Nat.reduceMul, Nat.reduceLeDiff, Nat.reduceLT]
        obtain ⟨v7008, hv7008, h⟩ := bindE h
        refine call_i (ih0 _ _ _ hv7008) ?_
        try simp only [go_sem, Nat.reduceEqDiff, reduceIte, Nat.reduceAdd, Nat.reduceMul, Nat.reduceLeDiff, Nat.reduceLT]
        refine cond_i (fun hb3 => ?_) (fun hb3 => ?_)
        · replace h := ifT (c := (!v7008)) hb3 h
          try simp only [go_sem, Nat.reduceEqDiff, reduceIte, Nat.reduceAdd, Nat.reduceMul, Nat.reduceLeDiff, Nat.reduceLT]
          obtain rfl := Option.some.inj h
          simp only [go_sem, Nat.reduceEqDiff, reduceIte, Nat.reduceAdd, Nat.reduceMul, Nat.reduceLeDiff, Nat.reduceLT]
        · replace h := ifF (c := (!v7008)) hb3 h
          try simp only [go_sem, Nat.reduceEqDiff, reduceIte, Nat.reduceAdd, Nat.reduceMul, Nat.reduceLeDiff, Nat.reduceLT]
          refine seq_go ?_
          try simp only [go_sem, Nat.reduceEqDiff, reduceIte, Nat.reduceAdd, Nat.reduceMul, Nat.reduceLeDiff, Nat.reduceLT]
          have hj := posF_to rfl rfl (ih2 a0 a1 (IntKind.i64.wrap (p0_0 + 1)) _ h)
          refine lp_to hj (.one ⟨_, .done _, [], [], ?_⟩)
          clear hj
          try simp only [go_sem, Nat.reduceEqDiff, reduceIte, Nat.reduceAdd, Nat.reduceMul, Nat.reduceLeDiff, Nat.reduceLT]
      · replace h := ifF (c := (decide (p0_0 < ((List.length a0 : Nat) : Int)))) hb2 h
        try simp only [go_sem, Nat.reduceEqDiff, reduceIte, Nat.reduceAdd, Nat.reduceMul, Nat.reduceLeDiff, Nat.reduceLT]
        refine seq_go ?_
        try simp only [go_sem, Nat.reduceEqDiff, reduceIte, Nat.reduceAdd, Nat.reduceMul, Nat.reduceLeDiff, Nat.reduceLT]
        obtain rfl := Option.some.inj h
        simp only [go_sem, Nat.reduceEqDiff, reduceIte, Nat.reduceAdd, Nat.reduceMul, Nat.reduceLeDiff, Nat.reduceLT]
theorem l_eqType_ok (n : Nat) : (∀ (a0 : TType) (a1 : TType) (r : Bool), l_eqType n a0 a1 = some r → AC Try.prog 298 [.agg (TType.avs a0), .agg (TType.avs a1)] (.bool r)) := (l_eqType_all n).1
theorem l_eqTypeS_ok (n : Nat) : (∀ (a0 : List TType) (a1 : List TType) (r : Bool), l_eqTypeS n a0 a1 = some r → AC Try.prog 345 [.ro (List.map TType.ds a0), .ro (List.map TType.ds a1)] (.bool r)) := (l_eqType_all n).2.1
theorem l_eqTypeS_l1_ok (n : Nat) : (∀ (a0 : List TType) (a1 : List TType) (p0_0 : Int) (r : Bool), l_eqTypeS_l1 n a0 a1 p0_0 = some r → posF Try.prog Try.f345 [1, 1, 0, 1, 0] (.bool r) ⟨[(0, .ro (List.map TType.ds a0)), (1, .ro (List.map TType.ds a1)), (5, .int .i64 p0_0)], [], []⟩) := (l_eqType_all n).2.2

theorem l_eqConstructor_ok (a0 : Constructor) (a1 : Constructor) (r : Bool) (h : l_eqConstructor a0 a1 = some r) : AC Try.prog 344 [.agg (Constructor.avs a0), .agg (Constructor.avs a1)] (.bool r) := by
  unfold l_eqConstructor at h
  refine ac_fn mixed Try.func344 rfl rfl rfl (by kernel_rfl) (by kernel_rfl) ?_
  try simp only [go_sem, Nat.reduceEqDiff, reduceIte, Nat.reduceAdd, Nat.reduceMul, Nat.reduceLeDiff, Nat.reduceLT]
  refine cond_i (fun hb1 => ?_) (fun hb1 => ?_)
  · replace h := ifT (c := (!sameStr a0.name a1.name)) hb1 h
    try simp only [go_sem, Nat.reduceEqDiff, reduceIte, Nat.reduceAdd, Nat.reduceMul, Nat.reduceLeDiff, Nat.reduceLT]
    obtain rfl := Option.some.inj h
    simp only [go_sem, Nat.reduceEqDiff, reduceIte, Nat.reduceAdd, Nat.reduceMul, Nat.reduceLeDiff, Nat.reduceLT]
  · replace h := ifF (c := (!sameStr a0.name a1.name)) hb1 h
    try simp only [go_sem, Nat.reduceEqDiff, reduceIte, Nat.reduceAdd, Nat.reduceMul, Nat.reduceLeDiff, Nat.reduceLT]
    refine seq_go ?_
    try simp only [go_sem, Nat.reduceEqDiff, reduceIte, Nat.reduceAdd, Nat.reduceMul, Nat.reduceLeDiff, Nat.reduceLT]
    obtain ⟨v4004, hv4004, h⟩ := bindE h
    refine call_i (l_eqTypeS_ok fuel _ _ _ hv4004) ?_
    try simp only [go_sem, Nat.reduceEqDiff, reduceIte, Nat.reduceAdd, Nat.reduceMul, Nat.reduceLeDiff, Nat.reduceLT]
    refine cond_i (fun hb2 => ?_) (fun hb2 => ?_)
    · replace h := ifT (c := (!v4004)) hb2 h
      try simp only [go_sem, Nat.reduceEqDiff, reduceIte, Nat.reduceAdd, Nat.reduceMul, Nat.reduceLeDiff, Nat.reduceLT]
      obtain rfl := Option.some.inj h
      simp only [go_sem, Nat.reduceEqDiff, reduceIte, Nat.reduceAdd, Nat.reduceMul, Nat.reduceLeDiff, Nat.reduceLT]
    · replace h := ifF (c := (!v4004)) hb2 h
      try simp only [go_sem, Nat.reduceEqDiff, reduceIte, Nat.reduceAdd, Nat.reduceMul, Nat.reduceLeDiff, Nat.reduceLT]
      refine seq_go ?_
      try simp only [go_sem, Nat.reduceEqDiff, reduceIte, Nat.reduceAdd, Nat.reduceMul, Nat.reduceLeDiff, Nat.reduceLT]
      obtain rfl := Option.some.inj h
      simp only [go_sem, Nat.reduceEqDiff, reduceIte, Nat.reduceAdd, Nat.reduceMul, Nat.reduceLeDiff, Nat.reduceLT]
theorem l_eqConstructorS_l1_all (n : Nat) : (∀ (a0 : List Constructor) (a1 : List Constructor) (p0_0 : Int) (r : Bool), l_eqConstructorS_l1 n a0 a1 p0_0 = some r → posF Try.prog Try.f297 [1, 1, 0, 1, 0] (.bool r) ⟨[(0, .ro (List.map Constructor.ds a0)), (1, .ro (List.map Constructor.ds a1)), (5, .int .i64 p0_0)], [], []⟩) := by
  induction n with
  | zero => exact ((fun _ _ _ _ h => by rw [l_eqConstructorS_l1] at h; cases h))
  | succ n ih =>
    have ih0 := ih
    · intro a0 a1 p0_0 r h
      rw [l_eqConstructorS_l1] at h
      refine posF_of rfl rfl ?_
      try simp only [go_sem, Nat.reduceEqDiff, reduceIte, Nat.reduceAdd, Nat.reduceMul, Nat.reduceLeDiff, Nat.reduceLT]
      refine loop_i ?_
      try simp only [go_sem, Nat.reduceEqDiff, reduceIte, Nat.reduceAdd, Nat.reduceMul, Nat.reduceLeDiff, Nat.reduceLT]
      refine cond_i (fun hb2 => ?_) (fun hb2 => ?_)
      · replace h := ifT (c := (decide (p0_0 < ((List.length a0 : Nat) : Int)))) hb2 h
        try simp only [go_sem, Nat.reduceEqDiff, reduceIte, Nat.reduceAdd, Nat.reduceMul, Nat.reduceLeDiff, Nat.reduceLT]
        refine seq_go ?_
        try simp only [go_sem, Nat.reduceEqDiff, reduceIte, Nat.reduceAdd, Nat.reduceMul, Nat.reduceLeDiff, Nat.reduceLT]
        obtain ⟨v7002, hv7002, h⟩ := bindE h
        refine idx_m hv7002 (Constructor.ds_len _) ?_
        try simp only [go_sem, Nat.reduceEqDiff, reduceIte, Nat.reduceAdd, Nat.reduceMul, Nat.reduceLeDiff, Nat.reduceLT]
        obtain ⟨v7006, hv7006, h⟩ := bindE h
        refine idx_m hv7006 (Constructor.ds_len _) ?_
        try simp only [go_sem, Nat.reduceEqDiff, reduceIte, Nat.reduceAdd, Nat.reduceMul, Nat.reduceLeDiff, Nat.reduceLT]
        obtain ⟨v7008, hv7008, h⟩ := bindE h
        refine call_i (l_eqConstructor_ok _ _ _ hv7008) ?_
        try simp only [go_sem, Nat.reduceEqDiff, reduceIte, Nat.reduceAdd, Nat.reduceMul, Nat.reduceLeDiff, Nat.reduceLT]
        refine cond_i (fun hb3 => ?_) (fun hb3 => ?_)
        · replace h := ifT (c := (!v7008)) hb3 h
          try simp only [go_sem, Nat.reduceEqDiff, reduceIte, Nat.reduceAdd, Nat.reduceMul, Nat.reduceLeDiff, Nat.reduceLT]
          obtain rfl := Option.some.inj h
          simp only [go_sem, Nat.reduceEqDiff, reduceIte, Nat.reduceAdd, Nat.reduceMul, Nat.reduceLeDiff, Nat.reduceLT]
        · replace h := ifF (c := (!v7008)) hb3 h
          try simp only [go_sem, Nat.reduceEqDiff, reduceIte, Nat.reduceAdd, Nat.reduceMul, Nat.reduceLeDiff, Nat.reduceLT]
          refine seq_go ?_
          try simp only [go_sem, Nat.reduceEqDiff, reduceIte, Nat.reduceAdd, Nat.reduceMul, Nat.reduceLeDiff, Nat.reduceLT]
          have hj := posF_to rfl rfl (ih0 a0 a1 (IntKind.i64.wrap (p0_0 + 1)) _ h)
          refine lp_to hj (.one ⟨_, .done _, [], [], ?_⟩)
          clear hj
          try simp only [go_sem, Nat.reduceEqDiff, reduceIte, Nat.reduceAdd, Nat.reduceMul, Nat.reduceLeDiff, Nat.reduceLT]
      · replace h := ifF (c := (decide (p0_0 < ((List.length a0 : Nat) : Int)))) hb2 h
        try simp only [go_sem, Nat.reduceEqDiff, reduceIte, Nat.reduceAdd, Nat.reduceMul, Nat.reduceLeDiff, Nat.reduceLT]
        refine seq_go ?_
        try simp only [go_sem, Nat.reduceEqDiff, reduceIte, Nat.reduceAdd, Nat.reduceMul, Nat.reduceLeDiff, Nat.reduceLT]
        obtain rfl := Option.some.inj h
        simp only [go_sem, Nat.reduceEqDiff, reduceIte, Nat.reduceAdd, Nat.reduceMul, Nat.reduceLeDiff, Nat.reduceLT]
theorem l_eqConstructorS_l1_ok (n : Nat) : (∀ (a0 : List Constructor) (a1 : List Constructor) (p0_0 : Int) (r : Bool), l_eqConstructorS_l1 n a0 a1 p0_0 = some r → posF Try.prog Try.f297 [1, 1, 0, 1, 0] (.bool r) ⟨[(0, .ro (List.map Constructor.ds a0)), (1, .ro (List.map Constructor.ds a1)), (5, .int .i64 p0_0)], [], []⟩) := (l_eqConstructorS_l1_all n)

theorem l_eqConstructorS_ok (a0 : List Constructor) (a1 : List Constructor) (r : Bool) (h : l_eqConstructorS a0 a1 = some r) : AC Try.prog 297 [.ro (List.map Constructor.ds a0), .ro (List.map Constructor.ds a1)] (.bool r) := by
  unfold l_eqConstructorS at h
  refine ac_fn mixed Try.func297 rfl rfl rfl (by kernel_rfl) (by kernel_rfl) ?_
  try simp only [go_sem, Nat.reduceEqDiff, reduceIte, Nat.reduceAdd, Nat.reduceMul, Nat.reduceLeDiff, Nat.reduceLT]
  refine cond_i (fun hb1 => ?_) (fun hb1 => ?_)
  · replace h := ifT (c := (!decide (((List.length a0 : Nat) : Int) = ((List.length a1 : Nat) : Int)))) hb1 h
    try simp only [go_sem, Nat.reduceEqDiff, reduceIte, Nat.reduceAdd, Nat.reduceMul, Nat.reduceLeDiff, Nat.reduceLT]
    obtain rfl := Option.some.inj h
    simp only [go_sem, Nat.reduceEqDiff, reduceIte, Nat.reduceAdd, Nat.reduceMul, Nat.reduceLeDiff, Nat.reduceLT]
  · replace h := ifF (c := (!decide (((List.length a0 : Nat) : Int) = ((List.length a1 : Nat) : Int)))) hb1 h
    try simp only [go_sem, Nat.reduceEqDiff, reduceIte, Nat.reduceAdd, Nat.reduceMul, Nat.reduceLeDiff, Nat.reduceLT]
    refine seq_go ?_
    try simp only [go_sem, Nat.reduceEqDiff, reduceIte, Nat.reduceAdd, Nat.reduceMul, Nat.reduceLeDiff, Nat.reduceLT]
    have hj := posF_to rfl rfl (l_eqConstructorS_l1_ok fuel a0 a1 0 _ h)
    refine loop_to hj (.one ⟨_, .done _, [], [], ?_⟩)
    clear hj
    try simp only [go_sem, Nat.reduceEqDiff, reduceIte, Nat.reduceAdd, Nat.reduceMul, Nat.reduceLeDiff, Nat.reduceLT]
theorem l_eqData_ok (a0 : Data) (a1 : Data) (r : Bool) (h : l_eqData a0 a1 = some r) : AC Try.prog 242 [.agg (Data.avs a0), .agg (Data.avs a1)] (.bool r) := by
  unfold l_eqData at h
  refine ac_fn mixed Try.func242 rfl rfl rfl (by kernel_rfl) (by kernel_rfl) ?_
  try simp only [go_sem, Nat.reduceEqDiff, reduceIte, Nat.reduceAdd, Nat.reduceMul, Nat.reduceLeDiff, Nat.reduceLT]
  refine cond_i (fun hb1 => ?_) (fun hb1 => ?_)
  · replace h := ifT (c := (!sameStr a0.name a1.name)) hb1 h
    try simp only [go_sem, Nat.reduceEqDiff, reduceIte, Nat.reduceAdd, Nat.reduceMul, Nat.reduceLeDiff, Nat.reduceLT]
    obtain rfl := Option.some.inj h
    simp only [go_sem, Nat.reduceEqDiff, reduceIte, Nat.reduceAdd, Nat.reduceMul, Nat.reduceLeDiff, Nat.reduceLT]
  · replace h := ifF (c := (!sameStr a0.name a1.name)) hb1 h
    try simp only [go_sem, Nat.reduceEqDiff, reduceIte, Nat.reduceAdd, Nat.reduceMul, Nat.reduceLeDiff, Nat.reduceLT]
    refine seq_go ?_
    try simp only [go_sem, Nat.reduceEqDiff, reduceIte, Nat.reduceAdd, Nat.reduceMul, Nat.reduceLeDiff, Nat.reduceLT]
    obtain ⟨v4004, hv4004, h⟩ := bindE h
    refine call_i (l_eqConstructorS_ok _ _ _ hv4004) ?_
    try simp only [go_sem, Nat.reduceEqDiff, reduceIte, Nat.reduceAdd, Nat.reduceMul, Nat.reduceLeDiff, Nat.reduceLT]
    refine cond_i (fun hb2 => ?_) (fun hb2 => ?_)
    · replace h := ifT (c := (!v4004)) hb2 h
      try simp only [go_sem, Nat.reduceEqDiff, reduceIte, Nat.reduceAdd, Nat.reduceMul, Nat.reduceLeDiff, Nat.reduceLT]
      obtain rfl := Option.some.inj h
      simp only [go_sem, Nat.reduceEqDiff, reduceIte, Nat.reduceAdd, Nat.reduceMul, Nat.reduceLeDiff, Nat.reduceLT]
    · replace h := ifF (c := (!v4004)) hb2 h
      try simp only [go_sem, Nat.reduceEqDiff, reduceIte, Nat.reduceAdd, Nat.reduceMul, Nat.reduceLeDiff, Nat.reduceLT]
      refine seq_go ?_
      try simp only [go_sem, Nat.reduceEqDiff, reduceIte, Nat.reduceAdd, Nat.reduceMul, Nat.reduceLeDiff, Nat.reduceLT]
      obtain rfl := Option.some.inj h
      simp only [go_sem, Nat.reduceEqDiff, reduceIte, Nat.reduceAdd, Nat.reduceMul, Nat.reduceLeDiff, Nat.reduceLT]
theorem l_eqDataS_l1_all (n : Nat) : (∀ (a0 : List Data) (a1 : List Data) (p0_0 : Int) (r : Bool), l_eqDataS_l1 n a0 a1 p0_0 = some r → posF Try.prog Try.f171 [1, 1, 0, 1, 0] (.bool r) ⟨[(0, .ro (List.map Data.ds a0)), (1, .ro (List.map Data.ds a1)), (5, .int .i64 p0_0)], [], []⟩) := by
  induction n with
  | zero => exact ((fun _ _ _ _ h => by rw [l_eqDataS_l1] at h; cases h))
  | succ n ih =>
    have ih0 := ih
    · intro a0 a1 p0_0 r h
      rw [l_eqDataS_l1] at h
      refine posF_of rfl rfl ?_
      try simp only [go_sem, Nat.reduceEqDiff, reduceIte, Nat.reduceAdd, Nat.reduceMul, Nat.reduceLeDiff, Nat.reduceLT]
      refine loop_i ?_
      try simp only [go_sem, Nat.reduceEqDiff, reduceIte, Nat.reduceAdd, Nat.reduceMul, Nat.reduceLeDiff, Nat.reduceLT]
      refine cond_i (fun hb2 => ?_) (fun hb2 => ?_)
      · replace h := ifT (c := (decide (p0_0 < ((List.length a0 : Nat) : Int)))) hb2 h
        try simp only [go_sem, Nat.reduceEqDiff, reduceIte, Nat.reduceAdd, Nat.reduceMul, Nat.reduceLeDiff, Nat.reduceLT]
        refine seq_go ?_
        try simp only [go_sem, Nat.reduceEqDiff, reduceIte, Nat.reduceAdd, Nat.reduceMul, Nat.reduceLeDiff, Nat.reduceLT]
        obtain ⟨v7002, hv7002, h⟩ := bindE h
        refine idx_m hv7002 (Data.ds_len _) ?_
        try simp only [go_sem, Nat.reduceEqDiff, reduceIte, Nat.reduceAdd, Nat.reduceMul, Nat.reduceLeDiff, Nat.reduceLT]
        obtain ⟨v7006, hv7006, h⟩ := bindE h
        refine idx_m hv7006 (Data.ds_len _) ?_
        try simp only [go_sem, Nat.reduceEqDiff, reduceIte, Nat.reduceAdd, Nat.reduceMul, Nat.reduceLeDiff, Nat.reduceLT]
        obtain ⟨v7008, hv7008, h⟩ := bindE h
        refine call_i (l_eqData_ok _ _ _ hv7008) ?_
        try simp only [go_sem, Nat.reduceEqDiff, reduceIte, Nat.reduceAdd, Nat.reduceMul, Nat.reduceLeDiff, Nat.reduceLT]
        refine cond_i (fun hb3 => ?_) (fun hb3 => ?_)
        · replace h := ifT (c := (!v7008)) hb3 h
          try simp only [go_sem, Nat.reduceEqDiff, reduceIte, Nat.reduceAdd, Nat.reduceMul, Nat.reduceLeDiff, Nat.reduceLT]
          obtain rfl := Option.some.inj h
          simp only [go_sem, Nat.reduceEqDiff, reduceIte, Nat.reduceAdd, Nat.reduceMul, Nat.reduceLeDiff, Nat.reduceLT]
        · replace h := ifF (c := (!v7008)) hb3 h
          try simp only [go_sem, Nat.reduceEqDiff, reduceIte, Nat.reduceAdd, Nat.reduceMul, Nat.reduceLeDiff, Nat.reduceLT]
          refine seq_go ?_
          try simp only [go_sem, Nat.reduceEqDiff, reduceIte, Nat.reduceAdd, Nat.reduceMul, Nat.reduceLeDiff, Nat.reduceLT]
          have hj := posF_to rfl rfl (ih0 a0 a1 (IntKind.i64.wrap (p0_0 + 1)) _ h)
          refine lp_to hj (.one ⟨_, .done _, [], [], ?_⟩)
          clear hj
          try simp only [go_sem, Nat.reduceEqDiff, reduceIte, Nat.reduceAdd, Nat.reduceMul, Nat.reduceLeDiff, Nat.reduceLT]
      · replace h := ifF (c := (decide (p0_0 < ((List.length a0 : Nat) : Int)))) hb2 h
        try simp only [go_sem, Nat.reduceEqDiff, reduceIte, Nat.reduceAdd, Nat.reduceMul, Nat.reduceLeDiff, Nat.reduceLT]
        refine seq_go ?_
        try simp only [go_sem, Nat.reduceEqDiff, reduceIte, Nat.reduceAdd, Nat.reduceMul, Nat.reduceLeDiff, Nat.reduceLT]
        obtain rfl := Option.some.inj h
        simp only [go_sem, Nat.reduceEqDiff, reduceIte, Nat.reduceAdd, Nat.reduceMul, Nat.reduceLeDiff, Nat.reduceLT]
theorem l_eqDataS_l1_ok (n : Nat) : (∀ (a0 : List Data) (a1 : List Data) (p0_0 : Int) (r : Bool), l_eqDataS_l1 n a0 a1 p0_0 = some r → posF Try.prog Try.f171 [1, 1, 0, 1, 0] (.bool r) ⟨[(0, .ro (List.map Data.ds a0)), (1, .ro (List.map Data.ds a1)), (5, .int .i64 p0_0)], [], []⟩) := (l_eqDataS_l1_all n)

theorem l_eqDataS_ok (a0 : List Data) (a1 : List Data) (r : Bool) (h : l_eqDataS a0 a1 = some r) : AC Try.prog 171 [.ro (List.map Data.ds a0), .ro (List.map Data.ds a1)] (.bool r) := by
  unfold l_eqDataS at h
  refine ac_fn mixed Try.func171 rfl rfl rfl (by kernel_rfl) (by kernel_rfl) ?_
  try simp only [go_sem, Nat.reduceEqDiff, reduceIte, Nat.reduceAdd, Nat.reduceMul, Nat.reduceLeDiff, Nat.reduceLT]
  refine cond_i (fun hb1 => ?_) (fun hb1 => ?_)
  · replace h := ifT (c := (!decide (((List.length a0 : Nat) : Int) = ((List.length a1 : Nat) : Int)))) hb1 h
    try simp only [go_sem, Nat.reduceEqDiff, reduceIte, Nat.reduceAdd, Nat.reduceMul, Nat.reduceLeDiff, Nat.reduceLT]
    obtain rfl := Option.some.inj h
    simp only [go_sem, Nat.reduceEqDiff, reduceIte, Nat.reduceAdd, Nat.reduceMul, Nat.reduceLeDiff, Nat.reduceLT]
  · replace h := ifF (c := (!decide (((List.length a0 : Nat) : Int) = ((List.length a1 : Nat) : Int)))) hb1 h
    try simp only [go_sem, Nat.reduceEqDiff, reduceIte, Nat.reduceAdd, Nat.reduceMul, Nat.reduceLeDiff, Nat.reduceLT]
    refine seq_go ?_
    try simp only [go_sem, Nat.reduceEqDiff, reduceIte, Nat.reduceAdd, Nat.reduceMul, Nat.reduceLeDiff, Nat.reduceLT]
    have hj := posF_to rfl rfl (l_eqDataS_l1_ok fuel a0 a1 0 _ h)
    refine loop_to hj (.one ⟨_, .done _, [], [], ?_⟩)
    clear hj
    try simp only [go_sem, Nat.reduceEqDiff, reduceIte, Nat.reduceAdd, Nat.reduceMul, Nat.reduceLeDiff, Nat.reduceLT]
theorem l_eqTermS_all (n : Nat) : (∀ (a0 : List Term) (a1 : List Term) (r : Bool), l_eqTermS n a0 a1 = some r → AC Try.prog 347 [.ro (List.map Term.ds a0), .ro (List.map Term.ds a1)] (.bool r)) ∧
    (∀ (a0 : List Term) (a1 : List Term) (p0_0 : Int) (r : Bool), l_eqTermS_l1 n a0 a1 p0_0 = some r → posF Try.prog Try.f347 [1, 1, 0, 1, 0] (.bool r) ⟨[(0, .ro (List.map Term.ds a0)), (1, .ro (List.map Term.ds a1)), (5, .int .i64 p0_0)], [], []⟩) ∧
    (∀ (a0 : Term) (a1 : Term) (r : Bool), l_eqTerm n a0 a1 = some r → AC Try.prog 299 [.agg (Term.avs a0), .agg (Term.avs a1)] (.bool r)) := by
  induction n with
  | zero => exact ⟨(fun _ _ _ h => by rw [l_eqTermS] at h; cases h), (fun _ _ _ _ h => by rw [l_eqTermS_l1] at h; cases h), (fun _ _ _ h => by rw [l_eqTerm] at h; cases h)⟩
  | succ n ih =>
    obtain ⟨ih0, ih1, ih2⟩ := ih
    refine ⟨?_, ?_, ?_⟩
    · intro a0 a1 r h
      rw [l_eqTermS] at h
      refine ac_fn mixed Try.func347 rfl rfl rfl (by kernel_rfl) (by kernel_rfl) ?_
      try simp only [go_sem, Nat.reduceEqDiff, reduceIte, Nat.reduceAdd, Nat.reduceMul, Nat.reduceLeDiff, Nat.reduceLT]
      refine cond_i (fun hb1 => ?_) (fun hb1 => ?_)
      · replace h := ifT (c := (!decide (((List.length a0 : Nat) : Int) = ((List.length a1 : Nat) : Int)))) hb1 h
        try simp only [go_sem, Nat.reduceEqDiff, reduceIte, Nat.reduceAdd, Nat.reduceMul, Nat.reduceLeDiff, Nat.reduceLT]
        obtain rfl := Option.some.inj h
        simp only [go_sem, Nat.reduceEqDiff, reduceIte, Nat.reduceAdd, Nat.reduceMul, Nat.reduceLeDiff, Nat.reduceLT]
      · replace h := ifF (c := (!decide (((List.length a0 : Nat) : Int) = ((List.length a1 : Nat) : Int)))) hb1 h
        try simp only [go_sem, Nat.reduceEqDiff, reduceIte, Nat.reduceAdd, Nat.reduceMul, Nat.reduceLeDiff, Nat.reduceLT]
        refine seq_go ?_
        try simp only [go_sem, Nat.reduceEqDiff, reduceIte, Nat.reduceAdd, Nat.reduceMul, Nat.reduceLeDiff, Nat.reduceLT]
        have hj := posF_to rfl rfl (ih1 a0 a1 0 _ h)
        refine loop_to hj (.one ⟨_, .done _, [], [], ?_⟩)
        clear hj
        try simp only [go_sem, Nat.reduceEqDiff, reduceIte, Nat.reduceAdd, Nat.reduceMul, Nat.reduceLeDiff, Nat.reduceLT]
    · intro a0 a1 p0_0 r h
      rw [l_eqTermS_l1] at h
      refine posF_of rfl rfl ?_
      try simp only [go_sem, Nat.reduceEqDiff, reduceIte, Nat.reduceAdd, Nat.reduceMul, Nat.reduceLeDiff, Nat.reduceLT]
      refine loop_i ?_
      try simp only [go_sem, Nat.reduceEqDiff, reduceIte, Nat.reduceAdd, Nat.reduceMul, Nat.reduceLeDiff, Nat.reduceLT]
      refine cond_i (fun hb2 => ?_) (fun hb2 => ?_)
      · replace h := ifT (c := (decide (p0_0 < ((List.length a0 : Nat) : Int)))) hb2 h
        try simp only [go_sem, Nat.reduceEqDiff, reduceIte, Nat.reduceAdd, Nat.reduceMul, Nat.reduceLeDiff, Nat.reduceLT]
        refine seq_go ?_
        try simp only [go_sem, Nat.reduceEqDiff, reduceIte, Nat.reduceAdd, Nat.reduceMul, Nat.reduceLeDiff, Nat.reduceLT]
        obtain ⟨v7002, hv7002, h⟩ := bindE h
        refine idx_m hv7002 (Term.ds_len _) ?_
        try simp only [go_sem, Nat.reduceEqDiff, reduceIte, Nat.reduceAdd, Nat.reduceMul, Nat.reduceLeDiff, Nat.reduceLT]
        obtain ⟨v7006, hv7006, h⟩ := bindE h
        refine idx_m hv7006 (Term.ds_len _) ?_
        try simp only [go_sem, Nat.reduceEqDiff, reduceIte, Nat.reduceAdd, Nat.reduceMul, Nat.reduceLeDiff, Nat.reduceLT]
        obtain ⟨v7008, hv7008, h⟩ := bindE h
        refine call_i (ih2 _ _ _ hv7008) ?_
        try simp only [go_sem, Nat.reduceEqDiff, reduceIte, Nat.reduceAdd, Nat.reduceMul, Nat.reduceLeDiff, Nat.reduceLT]
        refine cond_i (fun hb3 => ?_) (fun hb3 => ?_)
        · replace h := ifT (c := (!v7008)) hb3 h
          try simp only [go_sem, Nat.reduceEqDiff, reduceIte, Nat.reduceAdd, Nat.reduceMul, Nat.reduceLeDiff, Nat.reduceLT]
          obtain rfl := Option.some.inj h
          simp only [go_sem, Nat.reduceEqDiff, reduceIte, Nat.reduceAdd, Nat.reduceMul, Nat.reduceLeDiff, Nat.reduceLT]
        · replace h := ifF (c := (!v7008)) hb3 h
          try simp only [go_sem, Nat.reduceEqDiff, reduceIte, Nat.reduceAdd, Nat.reduceMul, Nat.reduceLeDiff, Nat.reduceLT]
          refine seq_go ?_
          try simp only [go_sem, Nat.reduceEqDiff, reduceIte, Nat.reduceAdd, Nat.reduceMul, Nat.reduceLeDiff, Nat.reduceLT]
          have hj := posF_to rfl rfl (ih1 a0 a1 (IntKind.i64.wrap (p0_0 + 1)) _ h)
          refine lp_to hj (.one ⟨_, .done _, [], [], ?_⟩)
          clear hj
          try simp only [go_sem, Nat.reduceEqDiff, reduceIte, Nat.reduceAdd, Nat.reduceMul, Nat.reduceLeDiff, Nat.reduceLT]
      · replace h := ifF (c := (decide (p0_0 < ((List.length a0 : Nat) : Int)))) hb2 h
        try simp only [go_sem, Nat.reduceEqDiff, reduceIte, Nat.reduceAdd, Nat.reduceMul, Nat.reduceLeDiff, Nat.reduceLT]
        refine seq_go ?_
        try simp only [go_sem, Nat.reduceEqDiff, reduceIte, Nat.reduceAdd, Nat.reduceMul, Nat.reduceLeDiff, Nat.reduceLT]
        obtain rfl := Option.some.inj h
        simp only [go_sem, Nat.reduceEqDiff, reduceIte, Nat.reduceAdd, Nat.reduceMul, Nat.reduceLeDiff, Nat.reduceLT]
    · intro a0 a1 r h
      rw [l_eqTerm] at h
      refine ac_fn mixed Try.func299 rfl rfl rfl (by kernel_rfl) (by kernel_rfl) ?_
      try simp only [go_sem, Nat.reduceEqDiff, reduceIte, Nat.reduceAdd, Nat.reduceMul, Nat.reduceLeDiff, Nat.reduceLT]
      refine cond_i (fun hb1 => ?_) (fun hb1 => ?_)
      · replace h := ifT (c := (!decide (a0.kind = a1.kind))) hb1 h
        try simp only [go_sem, Nat.reduceEqDiff, reduceIte, Nat.reduceAdd, Nat.reduceMul, Nat.reduceLeDiff, Nat.reduceLT]
        obtain rfl := Option.some.inj h
        simp only [go_sem, Nat.reduceEqDiff, reduceIte, Nat.reduceAdd, Nat.reduceMul, Nat.reduceLeDiff, Nat.reduceLT]
      · replace h := ifF (c := (!decide (a0.kind = a1.kind))) hb1 h
        try simp only [go_sem, Nat.reduceEqDiff, reduceIte, Nat.reduceAdd, Nat.reduceMul, Nat.reduceLeDiff, Nat.reduceLT]
        refine seq_go ?_
        try simp only [go_sem, Nat.reduceEqDiff, reduceIte, Nat.reduceAdd, Nat.reduceMul, Nat.reduceLeDiff, Nat.reduceLT]
        refine cond_i (fun hb2 => ?_) (fun hb2 => ?_)
        · replace h := ifT (c := (!decide (a0.num = a1.num))) hb2 h
          try simp only [go_sem, Nat.reduceEqDiff, reduceIte, Nat.reduceAdd, Nat.reduceMul, Nat.reduceLeDiff, Nat.reduceLT]
          obtain rfl := Option.some.inj h
          simp only [go_sem, Nat.reduceEqDiff, reduceIte, Nat.reduceAdd, Nat.reduceMul, Nat.reduceLeDiff, Nat.reduceLT]
        · replace h := ifF (c := (!decide (a0.num = a1.num))) hb2 h
          try simp only [go_sem, Nat.reduceEqDiff, reduceIte, Nat.reduceAdd, Nat.reduceMul, Nat.reduceLeDiff, Nat.reduceLT]
          refine seq_go ?_
          try simp only [go_sem, Nat.reduceEqDiff, reduceIte, Nat.reduceAdd, Nat.reduceMul, Nat.reduceLeDiff, Nat.reduceLT]
          refine cond_i (fun hb3 => ?_) (fun hb3 => ?_)
          · replace h := ifT (c := (!sameStr a0.name a1.name)) hb3 h
            try simp only [go_sem, Nat.reduceEqDiff, reduceIte, Nat.reduceAdd, Nat.reduceMul, Nat.reduceLeDiff, Nat.reduceLT]
            obtain rfl := Option.some.inj h
            simp only [go_sem, Nat.reduceEqDiff, reduceIte, Nat.reduceAdd, Nat.reduceMul, Nat.reduceLeDiff, Nat.reduceLT]
          · replace h := ifF (c := (!sameStr a0.name a1.name)) hb3 h
            try simp only [go_sem, Nat.reduceEqDiff, reduceIte, Nat.reduceAdd, Nat.reduceMul, Nat.reduceLeDiff, Nat.reduceLT]
            refine seq_go ?_
            try simp only [go_sem, Nat.reduceEqDiff, reduceIte, Nat.reduceAdd, Nat.reduceMul, Nat.reduceLeDiff, Nat.reduceLT]
            obtain ⟨v8004, hv8004, h⟩ := bindE h
            refine call_i (l_eqType_ok fuel _ _ _ hv8004) ?_
            try simp only [go_sem, Nat.reduceEqDiff, reduceIte, Nat.reduceAdd, Nat.reduceMul, Nat.reduceLeDiff, Nat.reduceLT]
            refine cond_i (fun hb4 => ?_) (fun hb4 => ?_)
            · replace h := ifT (c := (!v8004)) hb4 h
              try simp only [go_sem, Nat.reduceEqDiff, reduceIte, Nat.reduceAdd, Nat.reduceMul, Nat.reduceLeDiff, Nat.reduceLT]
              obtain rfl := Option.some.inj h
              simp only [go_sem, Nat.reduceEqDiff, reduceIte, Nat.reduceAdd, Nat.reduceMul, Nat.reduceLeDiff, Nat.reduceLT]
            · replace h := ifF (c := (!v8004)) hb4 h
              try simp only [go_sem, Nat.reduceEqDiff, reduceIte, Nat.reduceAdd, Nat.reduceMul, Nat.reduceLeDiff, Nat.reduceLT]
              refine seq_go ?_
              try simp only [go_sem, Nat.reduceEqDiff, reduceIte, Nat.reduceAdd, Nat.reduceMul, Nat.reduceLeDiff, Nat.reduceLT]
              obtain ⟨v10004, hv10004, h⟩ := bindE h
              refine call_i (l_eqStringS_ok _ _ _ hv10004) ?_
              try simp only [go_sem, Nat.reduceEqDiff, reduceIte, Nat.reduceAdd, Nat.reduceMul, Nat.reduceLeDiff, Nat.reduceLT]
              refine cond_i (fun hb5 => ?_) (fun hb5 => ?_)
              · replace h := ifT (c := (!v10004)) hb5 h
                try simp only [go_sem, Nat.reduceEqDiff, reduceIte, Nat.reduceAdd, Nat.reduceMul, Nat.reduceLeDiff, Nat.reduceLT]
                obtain rfl := Option.some.inj h
                simp only [go_sem, Nat.reduceEqDiff, reduceIte, Nat.reduceAdd, Nat.reduceMul, Nat.reduceLeDiff, Nat.reduceLT]
              · replace h := ifF (c := (!v10004)) hb5 h
                try simp only [go_sem, Nat.reduceEqDiff, reduceIte, Nat.reduceAdd, Nat.reduceMul, Nat.reduceLeDiff, Nat.reduceLT]
                refine seq_go ?_
                try simp only [go_sem, Nat.reduceEqDiff, reduceIte, Nat.reduceAdd, Nat.reduceMul, Nat.reduceLeDiff, Nat.reduceLT]
                obtain ⟨v12004, hv12004, h⟩ := bindE h
                refine call_i (ih0 _ _ _ hv12004) ?_
                try simp only [go_sem, Nat.reduceEqDiff, reduceIte, Nat.reduceAdd, Nat.reduceMul, Nat.reduceLeDiff, Nat.reduceLT]
                refine cond_i (fun hb6 => ?_) (fun hb6 => ?_)
                · replace h := ifT (c := (!v12004)) hb6 h
                  try simp only [go_sem, Nat.reduceEqDiff, reduceIte, Nat.reduceAdd, Nat.reduceMul, Nat.reduceLeDiff, Nat.reduceLT]
                  obtain rfl := Option.some.inj h
                  simp only [go_sem, Nat.reduceEqDiff, reduceIte, Nat.reduceAdd, Nat.reduceMul, Nat.reduceLeDiff, Nat.reduceLT]
                · replace h := ifF (c := (!v12004)) hb6 h
                  try simp only [go_sem, Nat.reduceEqDiff, reduceIte, Nat.reduceAdd, Nat.reduceMul, Nat.reduceLeDiff, Nat.reduceLT]
                  refine seq_go ?_
                  try simp only [go_sem, Nat.reduceEqDiff, reduceIte, Nat.reduceAdd, Nat.reduceMul, Nat.reduceLeDiff, Nat.reduceLT]
                  obtain rfl := Option.some.inj h
                  simp only [go_sem, Nat.reduceEqDiff, reduceIte, Nat.reduceAdd, Nat.reduceMul, Nat.reduceLeDiff, Nat.reduceLT]
theorem l_eqTermS_ok (n : Nat) : (∀ (a0 : List Term) (a1 : List Term) (r : Bool), l_eqTermS n a0 a1 = some r → AC Try.prog 347 [.ro (List.map Term.ds a0), .ro (List.map Term.ds a1)] (.bool r)) := (l_eqTermS_all n).1
theorem l_eqTermS_l1_ok (n : Nat) : (∀ (a0 : List Term) (a1 : List Term) (p0_0 : Int) (r : Bool), l_eqTermS_l1 n a0 a1 p0_0 = some r → posF Try.prog Try.f347 [1, 1, 0, 1, 0] (.bool r) ⟨[(0, .ro (List.map Term.ds a0)), (1, .ro (List.map Term.ds a1)), (5, .int .i64 p0_0)], [], []⟩) := (l_eqTermS_all n).2.1
theorem l_eqTerm_ok (n : Nat) : (∀ (a0 : Term) (a1 : Term) (r : Bool), l_eqTerm n a0 a1 = some r → AC Try.prog 299 [.agg (Term.avs a0), .agg (Term.avs a1)] (.bool r)) := (l_eqTermS_all n).2.2

theorem l_eqDef_ok (a0 : Def) (a1 : Def) (r : Bool) (h : l_eqDef a0 a1 = some r) : AC Try.prog 243 [.agg (Def.avs a0), .agg (Def.avs a1)] (.bool r) := by
  unfold l_eqDef at h
  refine ac_fn mixed Try.func243 rfl rfl rfl (by kernel_rfl) (by kernel_rfl) ?_
  try simp only [go_sem, Nat.reduceEqDiff, reduceIte, Nat.reduceAdd, Nat.reduceMul, Nat.reduceLeDiff, Nat.reduceLT]
  refine cond_i (fun hb1 => ?_) (fun hb1 => ?_)
  · replace h := ifT (c := (!sameStr a0.name a1.name)) hb1 h
    try simp only [go_sem, Nat.reduceEqDiff, reduceIte, Nat.reduceAdd, Nat.reduceMul, Nat.reduceLeDiff, Nat.reduceLT]
    obtain rfl := Option.some.inj h
    simp only [go_sem, Nat.reduceEqDiff, reduceIte, Nat.reduceAdd, Nat.reduceMul, Nat.reduceLeDiff, Nat.reduceLT]
  · replace h := ifF (c := (!sameStr a0.name a1.name)) hb1 h
    try simp only [go_sem, Nat.reduceEqDiff, reduceIte, Nat.reduceAdd, Nat.reduceMul, Nat.reduceLeDiff, Nat.reduceLT]
    refine seq_go ?_
    try simp only [go_sem, Nat.reduceEqDiff, reduceIte, Nat.reduceAdd, Nat.reduceMul, Nat.reduceLeDiff, Nat.reduceLT]
    obtain ⟨v4004, hv4004, h⟩ := bindE h
    refine call_i (l_eqType_ok fuel _ _ _ hv4004) ?_
    try simp only [go_sem, Nat.reduceEqDiff, reduceIte, Nat.reduceAdd, Nat.reduceMul, Nat.reduceLeDiff, Nat.reduceLT]
    refine cond_i (fun hb2 => ?_) (fun hb2 => ?_)
    · replace h := ifT (c := (!v4004)) hb2 h
      try simp only [go_sem, Nat.reduceEqDiff, reduceIte, Nat.reduceAdd, Nat.reduceMul, Nat.reduceLeDiff, Nat.reduceLT]
      obtain rfl := Option.some.inj h
      simp only [go_sem, Nat.reduceEqDiff, reduceIte, Nat.reduceAdd, Nat.reduceMul, Nat.reduceLeDiff, Nat.reduceLT]
    · replace h := ifF (c := (!v4004)) hb2 h
      try simp only [go_sem, Nat.reduceEqDiff, reduceIte, Nat.reduceAdd, Nat.reduceMul, Nat.reduceLeDiff, Nat.reduceLT]
      refine seq_go ?_
      try simp only [go_sem, Nat.reduceEqDiff, reduceIte, Nat.reduceAdd, Nat.reduceMul, Nat.reduceLeDiff, Nat.reduceLT]
      obtain ⟨v6004, hv6004, h⟩ := bindE h
      refine call_i (l_eqTerm_ok fuel _ _ _ hv6004) ?_
      try simp only [go_sem, Nat.reduceEqDiff, reduceIte, Nat.reduceAdd, Nat.reduceMul, Nat.reduceLeDiff, Nat.reduceLT]
      refine cond_i (fun hb3 => ?_) (fun hb3 => ?_)
      · replace h := ifT (c := (!v6004)) hb3 h
        try simp only [go_sem, Nat.reduceEqDiff, reduceIte, Nat.reduceAdd, Nat.reduceMul, Nat.reduceLeDiff, Nat.reduceLT]
        obtain rfl := Option.some.inj h
        simp only [go_sem, Nat.reduceEqDiff, reduceIte, Nat.reduceAdd, Nat.reduceMul, Nat.reduceLeDiff, Nat.reduceLT]
      · replace h := ifF (c := (!v6004)) hb3 h
        try simp only [go_sem, Nat.reduceEqDiff, reduceIte, Nat.reduceAdd, Nat.reduceMul, Nat.reduceLeDiff, Nat.reduceLT]
        refine seq_go ?_
        try simp only [go_sem, Nat.reduceEqDiff, reduceIte, Nat.reduceAdd, Nat.reduceMul, Nat.reduceLeDiff, Nat.reduceLT]
        obtain rfl := Option.some.inj h
        simp only [go_sem, Nat.reduceEqDiff, reduceIte, Nat.reduceAdd, Nat.reduceMul, Nat.reduceLeDiff, Nat.reduceLT]
theorem l_eqDefS_l1_all (n : Nat) : (∀ (a0 : List Def) (a1 : List Def) (p0_0 : Int) (r : Bool), l_eqDefS_l1 n a0 a1 p0_0 = some r → posF Try.prog Try.f172 [1, 1, 0, 1, 0] (.bool r) ⟨[(0, .ro (List.map Def.ds a0)), (1, .ro (List.map Def.ds a1)), (5, .int .i64 p0_0)], [], []⟩) := by
  induction n with
  | zero => exact ((fun _ _ _ _ h => by rw [l_eqDefS_l1] at h; cases h))
  | succ n ih =>
    have ih0 := ih
    · intro a0 a1 p0_0 r h
      rw [l_eqDefS_l1] at h
      refine posF_of rfl rfl ?_
      try simp only [go_sem, Nat.reduceEqDiff, reduceIte, Nat.reduceAdd, Nat.reduceMul, Nat.reduceLeDiff, Nat.reduceLT]
      refine loop_i ?_
      try simp only [go_sem, Nat.reduceEqDiff, reduceIte, Nat.reduceAdd, Nat.reduceMul, Nat.reduceLeDiff, Nat.reduceLT]
      refine cond_i (fun hb2 => ?_) (fun hb2 => ?_)
      · replace h := ifT (c := (decide (p0_0 < ((List.length a0 : Nat) : Int)))) hb2 h
        try simp only [go_sem, Nat.reduceEqDiff, reduceIte, Nat.reduceAdd, Nat.reduceMul, Nat.reduceLeDiff, Nat.reduceLT]
        refine seq_go ?_
        try simp only [go_sem, Nat.reduceEqDiff, reduceIte, Nat.reduceAdd, Nat.reduceMul, Nat.reduceLeDiff, Nat.reduceLT]
        obtain ⟨v7002, hv7002, h⟩ := bindE h
        refine idx_m hv7002 (Def.ds_len _) ?_
        try simp only [go_sem, Nat.reduceEqDiff, reduceIte, Nat.reduceAdd, Nat.reduceMul, Nat.reduceLeDiff, Nat.reduceLT]
        obtain ⟨v7006, hv7006, h⟩ := bindE h
        refine idx_m hv7006 (Def.ds_len _) ?_
        try simp only [go_sem, Nat.reduceEqDiff, reduceIte, Nat.reduceAdd, Nat.reduceMul, Nat.reduceLeDiff, Nat.reduceLT]
        obtain ⟨v7008, hv7008, h⟩ := bindE h
        refine call_i (l_eqDef_ok _ _ _ hv7008) ?_
        try simp only [go_sem, Nat.reduceEqDiff, reduceIte, Nat.reduceAdd, Nat.reduceMul, Nat.reduceLeDiff, Nat.reduceLT]
        refine cond_i (fun hb3 => ?_) (fun hb3 => ?_)
        · replace h := ifT (c := (!v7008)) hb3 h
          try simp only [go_sem, Nat.reduceEqDiff, reduceIte, Nat.reduceAdd, Nat.reduceMul, Nat.reduceLeDiff, Nat.reduceLT]
          obtain rfl := Option.some.inj h
          simp only [go_sem, Nat.reduceEqDiff, reduceIte, Nat.reduceAdd, Nat.reduceMul, Nat.reduceLeDiff, Nat.reduceLT]
        · replace h := ifF (c := (!v7008)) hb3 h
          try simp only [go_sem, Nat.reduceEqDiff, reduceIte, Nat.reduceAdd, Nat.reduceMul, Nat.reduceLeDiff, Nat.reduceLT]
          refine seq_go ?_
          try simp only [go_sem, Nat.reduceEqDiff, reduceIte, Nat.reduceAdd, Nat.reduceMul, Nat.reduceLeDiff, Nat.reduceLT]
          have hj := posF_to rfl rfl (ih0 a0 a1 (IntKind.i64.wrap (p0_0 + 1)) _ h)
          refine lp_to hj (.one ⟨_, .done _, [], [], ?_⟩)
          clear hj
          try simp only [go_sem, Nat.reduceEqDiff, reduceIte, Nat.reduceAdd, Nat.reduceMul, Nat.reduceLeDiff, Nat.reduceLT]
      · replace h := ifF (c := (decide (p0_0 < ((List.length a0 : Nat) : Int)))) hb2 h
        try simp only [go_sem, Nat.reduceEqDiff, reduceIte, Nat.reduceAdd, Nat.reduceMul, Nat.reduceLeDiff, Nat.reduceLT]
        refine seq_go ?_
        try simp only [go_sem, Nat.reduceEqDiff, reduceIte, Nat.reduceAdd, Nat.reduceMul, Nat.reduceLeDiff, Nat.reduceLT]
        obtain rfl := Option.some.inj h
        simp only [go_sem, Nat.reduceEqDiff, reduceIte, Nat.reduceAdd, Nat.reduceMul, Nat.reduceLeDiff, Nat.reduceLT]
theorem l_eqDefS_l1_ok (n : Nat) : (∀ (a0 : List Def) (a1 : List Def) (p0_0 : Int) (r : Bool), l_eqDefS_l1 n a0 a1 p0_0 = some r → posF Try.prog Try.f172 [1, 1, 0, 1, 0] (.bool r) ⟨[(0, .ro (List.map Def.ds a0)), (1, .ro (List.map Def.ds a1)), (5, .int .i64 p0_0)], [], []⟩) := (l_eqDefS_l1_all n)

theorem l_eqDefS_ok (a0 : List Def) (a1 : List Def) (r : Bool) (h : l_eqDefS a0 a1 = some r) : AC Try.prog 172 [.ro (List.map Def.ds a0), .ro (List.map Def.ds a1)] (.bool r) := by
  unfold l_eqDefS at h
  refine ac_fn mixed Try.func172 rfl rfl rfl (by kernel_rfl) (by kernel_rfl) ?_
  try simp only [go_sem, Nat.reduceEqDiff, reduceIte, Nat.reduceAdd, Nat.reduceMul, Nat.reduceLeDiff, Nat.reduceLT]
  refine cond_i (fun hb1 => ?_) (fun hb1 => ?_)
  · replace h := ifT (c := (!decide (((List.length a0 : Nat) : Int) = ((List.length a1 : Nat) : Int)))) hb1 h
    try simp only [go_sem, Nat.reduceEqDiff, reduceIte, Nat.reduceAdd, Nat.reduceMul, Nat.reduceLeDiff, Nat.reduceLT]
    obtain rfl := Option.some.inj h
    simp only [go_sem, Nat.reduceEqDiff, reduceIte, Nat.reduceAdd, Nat.reduceMul, Nat.reduceLeDiff, Nat.reduceLT]
  · replace h := ifF (c := (!decide (((List.length a0 : Nat) : Int) = ((List.length a1 : Nat) : Int)))) hb1 h
    try simp only [go_sem, Nat.reduceEqDiff, reduceIte, Nat.reduceAdd, Nat.reduceMul, Nat.reduceLeDiff, Nat.reduceLT]
    refine seq_go ?_
    try simp only [go_sem, Nat.reduceEqDiff, reduceIte, Nat.reduceAdd, Nat.reduceMul, Nat.reduceLeDiff, Nat.reduceLT]
    have hj := posF_to rfl rfl (l_eqDefS_l1_ok fuel a0 a1 0 _ h)
    refine loop_to hj (.one ⟨_, .done _, [], [], ?_⟩)
    clear hj
    try simp only [go_sem, Nat.reduceEqDiff, reduceIte, Nat.reduceAdd, Nat.reduceMul, Nat.reduceLeDiff, Nat.reduceLT]
theorem l_eqProgram_ok (a0 : TProgram) (a1 : TProgram) (r : Bool) (h : l_eqProgram a0 a1 = some r) : AC Try.prog 94 [.agg (TProgram.avs a0), .agg (TProgram.avs a1)] (.bool r) := by
  unfold l_eqProgram at h
  refine ac_fn mixed Try.func94 rfl rfl rfl (by kernel_rfl) (by kernel_rfl) ?_
  try simp only [go_sem, Nat.reduceEqDiff, reduceIte, Nat.reduceAdd, Nat.reduceMul, Nat.reduceLeDiff, Nat.reduceLT]
  obtain ⟨v2004, hv2004, h⟩ := bindE h
  refine call_i (l_eqDataS_ok _ _ _ hv2004) ?_
  try simp only [go_sem, Nat.reduceEqDiff, reduceIte, Nat.reduceAdd, Nat.reduceMul, Nat.reduceLeDiff, Nat.reduceLT]
  refine cond_i (fun hb1 => ?_) (fun hb1 => ?_)
  · replace h := ifT (c := (!v2004)) hb1 h
    try simp only [go_sem, Nat.reduceEqDiff, reduceIte, Nat.reduceAdd, Nat.reduceMul, Nat.reduceLeDiff, Nat.reduceLT]
    obtain rfl := Option.some.inj h
    simp only [go_sem, Nat.reduceEqDiff, reduceIte, Nat.reduceAdd, Nat.reduceMul, Nat.reduceLeDiff, Nat.reduceLT]
  · replace h := ifF (c := (!v2004)) hb1 h
    try simp only [go_sem, Nat.reduceEqDiff, reduceIte, Nat.reduceAdd, Nat.reduceMul, Nat.reduceLeDiff, Nat.reduceLT]
    refine seq_go ?_
    try simp only [go_sem, Nat.reduceEqDiff, reduceIte, Nat.reduceAdd, Nat.reduceMul, Nat.reduceLeDiff, Nat.reduceLT]
    obtain ⟨v4004, hv4004, h⟩ := bindE h
    refine call_i (l_eqDefS_ok _ _ _ hv4004) ?_
    try simp only [go_sem, Nat.reduceEqDiff, reduceIte, Nat.reduceAdd, Nat.reduceMul, Nat.reduceLeDiff, Nat.reduceLT]
    refine cond_i (fun hb2 => ?_) (fun hb2 => ?_)
    · replace h := ifT (c := (!v4004)) hb2 h
      try simp only [go_sem, Nat.reduceEqDiff, reduceIte, Nat.reduceAdd, Nat.reduceMul, Nat.reduceLeDiff, Nat.reduceLT]
      obtain rfl := Option.some.inj h
      simp only [go_sem, Nat.reduceEqDiff, reduceIte, Nat.reduceAdd, Nat.reduceMul, Nat.reduceLeDiff, Nat.reduceLT]
    · replace h := ifF (c := (!v4004)) hb2 h
      try simp only [go_sem, Nat.reduceEqDiff, reduceIte, Nat.reduceAdd, Nat.reduceMul, Nat.reduceLeDiff, Nat.reduceLT]
      refine seq_go ?_
      try simp only [go_sem, Nat.reduceEqDiff, reduceIte, Nat.reduceAdd, Nat.reduceMul, Nat.reduceLeDiff, Nat.reduceLT]
      obtain rfl := Option.some.inj h
      simp only [go_sem, Nat.reduceEqDiff, reduceIte, Nat.reduceAdd, Nat.reduceMul, Nat.reduceLeDiff, Nat.reduceLT]
theorem l_eqDesk_ok (a0 : Desk) (a1 : Desk) (r : Bool) (h : l_eqDesk a0 a1 = some r) : AC Try.prog 35 [.agg (Desk.avs a0), .agg (Desk.avs a1)] (.bool r) := by
  unfold l_eqDesk at h
  refine ac_fn mixed Try.func35 rfl rfl rfl (by kernel_rfl) (by kernel_rfl) ?_
  try simp only [go_sem, Nat.reduceEqDiff, reduceIte, Nat.reduceAdd, Nat.reduceMul, Nat.reduceLeDiff, Nat.reduceLT]
  refine cond_i (fun hb1 => ?_) (fun hb1 => ?_)
  · replace h := ifT (c := (!(a0.loaded == a1.loaded))) hb1 h
    try simp only [go_sem, Nat.reduceEqDiff, reduceIte, Nat.reduceAdd, Nat.reduceMul, Nat.reduceLeDiff, Nat.reduceLT]
    obtain rfl := Option.some.inj h
    simp only [go_sem, Nat.reduceEqDiff, reduceIte, Nat.reduceAdd, Nat.reduceMul, Nat.reduceLeDiff, Nat.reduceLT]
  · replace h := ifF (c := (!(a0.loaded == a1.loaded))) hb1 h
    try simp only [go_sem, Nat.reduceEqDiff, reduceIte, Nat.reduceAdd, Nat.reduceMul, Nat.reduceLeDiff, Nat.reduceLT]
    refine seq_go ?_
    try simp only [go_sem, Nat.reduceEqDiff, reduceIte, Nat.reduceAdd, Nat.reduceMul, Nat.reduceLeDiff, Nat.reduceLT]
    obtain ⟨v4004, hv4004, h⟩ := bindE h
    refine call_i (l_eqProgram_ok _ _ _ hv4004) ?_
    try simp only [go_sem, Nat.reduceEqDiff, reduceIte, Nat.reduceAdd, Nat.reduceMul, Nat.reduceLeDiff, Nat.reduceLT]
    refine cond_i (fun hb2 => ?_) (fun hb2 => ?_)
    · replace h := ifT (c := (!v4004)) hb2 h
      try simp only [go_sem, Nat.reduceEqDiff, reduceIte, Nat.reduceAdd, Nat.reduceMul, Nat.reduceLeDiff, Nat.reduceLT]
      obtain rfl := Option.some.inj h
      simp only [go_sem, Nat.reduceEqDiff, reduceIte, Nat.reduceAdd, Nat.reduceMul, Nat.reduceLeDiff, Nat.reduceLT]
    · replace h := ifF (c := (!v4004)) hb2 h
      try simp only [go_sem, Nat.reduceEqDiff, reduceIte, Nat.reduceAdd, Nat.reduceMul, Nat.reduceLeDiff, Nat.reduceLT]
      refine seq_go ?_
      try simp only [go_sem, Nat.reduceEqDiff, reduceIte, Nat.reduceAdd, Nat.reduceMul, Nat.reduceLeDiff, Nat.reduceLT]
      obtain ⟨v6004, hv6004, h⟩ := bindE h
      refine call_i (l_eqInt64S_ok _ _ _ hv6004) ?_
      try simp only [go_sem, Nat.reduceEqDiff, reduceIte, Nat.reduceAdd, Nat.reduceMul, Nat.reduceLeDiff, Nat.reduceLT]
      refine cond_i (fun hb3 => ?_) (fun hb3 => ?_)
      · replace h := ifT (c := (!v6004)) hb3 h
        try simp only [go_sem, Nat.reduceEqDiff, reduceIte, Nat.reduceAdd, Nat.reduceMul, Nat.reduceLeDiff, Nat.reduceLT]
        obtain rfl := Option.some.inj h
        simp only [go_sem, Nat.reduceEqDiff, reduceIte, Nat.reduceAdd, Nat.reduceMul, Nat.reduceLeDiff, Nat.reduceLT]
      · replace h := ifF (c := (!v6004)) hb3 h
        try simp only [go_sem, Nat.reduceEqDiff, reduceIte, Nat.reduceAdd, Nat.reduceMul, Nat.reduceLeDiff, Nat.reduceLT]
        refine seq_go ?_
        try simp only [go_sem, Nat.reduceEqDiff, reduceIte, Nat.reduceAdd, Nat.reduceMul, Nat.reduceLeDiff, Nat.reduceLT]
        refine cond_i (fun hb4 => ?_) (fun hb4 => ?_)
        · replace h := ifT (c := (!decide (a0.machines = a1.machines))) hb4 h
          try simp only [go_sem, Nat.reduceEqDiff, reduceIte, Nat.reduceAdd, Nat.reduceMul, Nat.reduceLeDiff, Nat.reduceLT]
          obtain rfl := Option.some.inj h
          simp only [go_sem, Nat.reduceEqDiff, reduceIte, Nat.reduceAdd, Nat.reduceMul, Nat.reduceLeDiff, Nat.reduceLT]
        · replace h := ifF (c := (!decide (a0.machines = a1.machines))) hb4 h
          try simp only [go_sem, Nat.reduceEqDiff, reduceIte, Nat.reduceAdd, Nat.reduceMul, Nat.reduceLeDiff, Nat.reduceLT]
          refine seq_go ?_
          try simp only [go_sem, Nat.reduceEqDiff, reduceIte, Nat.reduceAdd, Nat.reduceMul, Nat.reduceLeDiff, Nat.reduceLT]
          obtain rfl := Option.some.inj h
          simp only [go_sem, Nat.reduceEqDiff, reduceIte, Nat.reduceAdd, Nat.reduceMul, Nat.reduceLeDiff, Nat.reduceLT]
theorem l_FnExactSameDesk_ok (a0 : Desk) (a1 : Desk) (r : Bool) (h : l_FnExactSameDesk a0 a1 = some r) : AC Try.prog 6 [.agg (Desk.avs a0), .agg (Desk.avs a1)] (.bool r) := by
  unfold l_FnExactSameDesk at h
  refine ac_fn mixed Try.func6 rfl rfl rfl (by kernel_rfl) (by kernel_rfl) ?_
  try simp only [go_sem, Nat.reduceEqDiff, reduceIte, Nat.reduceAdd, Nat.reduceMul, Nat.reduceLeDiff, Nat.reduceLT]
  obtain ⟨v3002, hv3002, h⟩ := bindE h
  refine call_i (l_szDesk_ok _ _ _ hv3002) ?_
  try simp only [go_sem, Nat.reduceEqDiff, reduceIte, Nat.reduceAdd, Nat.reduceMul, Nat.reduceLeDiff, Nat.reduceLT]
  refine cond_i (fun hb1 => ?_) (fun hb1 => ?_)
  · replace h := ifT (c := (decide (v3002 < 0))) hb1 h
    try simp only [go_sem, Nat.reduceEqDiff, reduceIte, Nat.reduceAdd, Nat.reduceMul, Nat.reduceLeDiff, Nat.reduceLT]
    obtain rfl := Option.some.inj h
    simp only [go_sem, Nat.reduceEqDiff, reduceIte, Nat.reduceAdd, Nat.reduceMul, Nat.reduceLeDiff, Nat.reduceLT]
  · replace h := ifF (c := (decide (v3002 < 0))) hb1 h
    try simp only [go_sem, Nat.reduceEqDiff, reduceIte, Nat.reduceAdd, Nat.reduceMul, Nat.reduceLeDiff, Nat.reduceLT]
    refine seq_go ?_
    try simp only [go_sem, Nat.reduceEqDiff, reduceIte, Nat.reduceAdd, Nat.reduceMul, Nat.reduceLeDiff, Nat.reduceLT]
    obtain ⟨v6002, hv6002, h⟩ := bindE h
    refine call_i (l_szDesk_ok _ _ _ hv6002) ?_
    try simp only [go_sem, Nat.reduceEqDiff, reduceIte, Nat.reduceAdd, Nat.reduceMul, Nat.reduceLeDiff, Nat.reduceLT]
    refine cond_i (fun hb2 => ?_) (fun hb2 => ?_)
    · replace h := ifT (c := (decide (v6002 < 0))) hb2 h
      try simp only [go_sem, Nat.reduceEqDiff, reduceIte, Nat.reduceAdd, Nat.reduceMul, Nat.reduceLeDiff, Nat.reduceLT]
      obtain rfl := Option.some.inj h
      simp only [go_sem, Nat.reduceEqDiff, reduceIte, Nat.reduceAdd, Nat.reduceMul, Nat.reduceLeDiff, Nat.reduceLT]
    · replace h := ifF (c := (decide (v6002 < 0))) hb2 h
      try simp only [go_sem, Nat.reduceEqDiff, reduceIte, Nat.reduceAdd, Nat.reduceMul, Nat.reduceLeDiff, Nat.reduceLT]
      refine seq_go ?_
      try simp only [go_sem, Nat.reduceEqDiff, reduceIte, Nat.reduceAdd, Nat.reduceMul, Nat.reduceLeDiff, Nat.reduceLT]
      obtain ⟨v9001, hv9001, h⟩ := bindE h
      refine call_i (l_toDesk_ok _ _ hv9001) ?_
      try simp only [go_sem, Nat.reduceEqDiff, reduceIte, Nat.reduceAdd, Nat.reduceMul, Nat.reduceLeDiff, Nat.reduceLT]
      obtain ⟨v9003, hv9003, h⟩ := bindE h
      refine call_i (l_toDesk_ok _ _ hv9003) ?_
      try simp only [go_sem, Nat.reduceEqDiff, reduceIte, Nat.reduceAdd, Nat.reduceMul, Nat.reduceLeDiff, Nat.reduceLT]
      obtain ⟨v9004, hv9004, h⟩ := bindE h
      refine call_i (s_SameDesk_ok _ _ _ hv9004) ?_
      try simp only [go_sem, Nat.reduceEqDiff, reduceIte, Nat.reduceAdd, Nat.reduceMul, Nat.reduceLeDiff, Nat.reduceLT]
      obtain ⟨v10001, hv10001, h⟩ := bindE h
      refine call_i (l_toDesk_ok _ _ hv10001) ?_
      try simp only [go_sem, Nat.reduceEqDiff, reduceIte, Nat.reduceAdd, Nat.reduceMul, Nat.reduceLeDiff, Nat.reduceLT]
      obtain ⟨v11001, hv11001, h⟩ := bindE h
      refine call_i (l_toDesk_ok _ _ hv11001) ?_
      try simp only [go_sem, Nat.reduceEqDiff, reduceIte, Nat.reduceAdd, Nat.reduceMul, Nat.reduceLeDiff, Nat.reduceLT]
      obtain ⟨v12002, hv12002, h⟩ := bindE h
      refine call_i (i_SameDesk_ok _ _ _ hv12002) ?_
      try simp only [go_sem, Nat.reduceEqDiff, reduceIte, Nat.reduceAdd, Nat.reduceMul, Nat.reduceLeDiff, Nat.reduceLT]
      refine cond_i (fun hb3 => ?_) (fun hb3 => ?_)
      · replace h := ifT (c := (!(v12002 == v9004))) hb3 h
        try simp only [go_sem, Nat.reduceEqDiff, reduceIte, Nat.reduceAdd, Nat.reduceMul, Nat.reduceLeDiff, Nat.reduceLT]
        obtain rfl := Option.some.inj h
        simp only [go_sem, Nat.reduceEqDiff, reduceIte, Nat.reduceAdd, Nat.reduceMul, Nat.reduceLeDiff, Nat.reduceLT]
      · replace h := ifF (c := (!(v12002 == v9004))) hb3 h
        try simp only [go_sem, Nat.reduceEqDiff, reduceIte, Nat.reduceAdd, Nat.reduceMul, Nat.reduceLeDiff, Nat.reduceLT]
        refine seq_go ?_
        try simp only [go_sem, Nat.reduceEqDiff, reduceIte, Nat.reduceAdd, Nat.reduceMul, Nat.reduceLeDiff, Nat.reduceLT]
        obtain ⟨v15002, hv15002, h⟩ := bindE h
        refine call_i (l_toDesk_ok _ _ hv15002) ?_
        try simp only [go_sem, Nat.reduceEqDiff, reduceIte, Nat.reduceAdd, Nat.reduceMul, Nat.reduceLeDiff, Nat.reduceLT]
        obtain ⟨v15003, hv15003, h⟩ := bindE h
        refine call_i (l_eqDesk_ok _ _ _ hv15003) ?_
        try simp only [go_sem, Nat.reduceEqDiff, reduceIte, Nat.reduceAdd, Nat.reduceMul, Nat.reduceLeDiff, Nat.reduceLT]
        refine cond_i (fun hb4 => ?_) (fun hb4 => ?_)
        · replace h := ifT (c := (!v15003)) hb4 h
          try simp only [go_sem, Nat.reduceEqDiff, reduceIte, Nat.reduceAdd, Nat.reduceMul, Nat.reduceLeDiff, Nat.reduceLT]
          obtain rfl := Option.some.inj h
          simp only [go_sem, Nat.reduceEqDiff, reduceIte, Nat.reduceAdd, Nat.reduceMul, Nat.reduceLeDiff, Nat.reduceLT]
        · replace h := ifF (c := (!v15003)) hb4 h
          try simp only [go_sem, Nat.reduceEqDiff, reduceIte, Nat.reduceAdd, Nat.reduceMul, Nat.reduceLeDiff, Nat.reduceLT]
          refine seq_go ?_
          try simp only [go_sem, Nat.reduceEqDiff, reduceIte, Nat.reduceAdd, Nat.reduceMul, Nat.reduceLeDiff, Nat.reduceLT]
          obtain ⟨v17002, hv17002, h⟩ := bindE h
          refine call_i (l_toDesk_ok _ _ hv17002) ?_
          try simp only [go_sem, Nat.reduceEqDiff, reduceIte, Nat.reduceAdd, Nat.reduceMul, Nat.reduceLeDiff, Nat.reduceLT]
          obtain ⟨v17003, hv17003, h⟩ := bindE h
          refine call_i (l_eqDesk_ok _ _ _ hv17003) ?_
          try simp only [go_sem, Nat.reduceEqDiff, reduceIte, Nat.reduceAdd, Nat.reduceMul, Nat.reduceLeDiff, Nat.reduceLT]
          refine cond_i (fun hb5 => ?_) (fun hb5 => ?_)
          · replace h := ifT (c := (!v17003)) hb5 h
            try simp only [go_sem, Nat.reduceEqDiff, reduceIte, Nat.reduceAdd, Nat.reduceMul, Nat.reduceLeDiff, Nat.reduceLT]
            obtain rfl := Option.some.inj h
            simp only [go_sem, Nat.reduceEqDiff, reduceIte, Nat.reduceAdd, Nat.reduceMul, Nat.reduceLeDiff, Nat.reduceLT]
          · replace h := ifF (c := (!v17003)) hb5 h
            try simp only [go_sem, Nat.reduceEqDiff, reduceIte, Nat.reduceAdd, Nat.reduceMul, Nat.reduceLeDiff, Nat.reduceLT]
            refine seq_go ?_
            try simp only [go_sem, Nat.reduceEqDiff, reduceIte, Nat.reduceAdd, Nat.reduceMul, Nat.reduceLeDiff, Nat.reduceLT]
            obtain rfl := Option.some.inj h
            simp only [go_sem, Nat.reduceEqDiff, reduceIte, Nat.reduceAdd, Nat.reduceMul, Nat.reduceLeDiff, Nat.reduceLT]
end Go.Proofs.Ytffokcfdkkikmaa.Ab
