/-
  The functions do what their models say. Printed by wip/ab/gen.py.
-/
import Derived.Test.YtckcfdggbbabfaaModU
import Derived.Test.YtckcfdggbbabfaaTi2
import Derived.Test.YtckcfdggbbabfaaWlk
namespace Go.Proofs.Ytckcfdggbbabfaa.Ab
set_option linter.unusedVariables false
set_option linter.unusedSimpArgs false
set_option maxRecDepth 20000
set_option maxHeartbeats 4000000
open Go.RowKit

theorem l_szDequeActor_ok (a0 : DequeActor) (a1 : Int) (r : Int) (h : l_szDequeActor a0 a1 = some r) : AC Try.prog 23 [.agg (DequeActor.avs a0), .int .i64 a1] (.int .i64 r) := by
  unfold l_szDequeActor at h
  refine ac_fn mixed Try.func23 rfl rfl rfl (by kernel_rfl) (by kernel_rfl) ?_
  try simp only [go_sem]
  replace h := bindE h
  obtain ⟨v2003, hv2003, h⟩ := h
  refine call_i (l_szInt64S_ok _ _ _ hv2003) ?_
  try simp only [go_sem]
  refine cond_i (fun hb1 => ?_) (fun hb1 => ?_)
  · replace h := ifT (c := (decide (v2003 < 0))) hb1 h
    try simp only [go_sem]
    replace h := Option.some.inj h
    obtain rfl := h
    simp only [go_sem]
  · replace h := ifF (c := (decide (v2003 < 0))) hb1 h
    try simp only [go_sem]
    refine seq_go ?_
    try simp only [go_sem]
    replace h := Option.some.inj h
    obtain rfl := h
    simp only [go_sem]
theorem l_szDequeActorS_l1_all (n : Nat) : (∀ (a0 : List DequeActor) (p0_0 : Int) (p0_1 : Int) (r : Int), l_szDequeActorS_l1 n a0 p0_0 p0_1 = some r → posF Try.prog Try.f12 [1, 1, 1, 0, 1, 0] (.int .i64 r) ⟨[(0, .ro (List.map DequeActor.ds a0)), (1, .int .i64 p0_0), (5, .int .i64 p0_1)], [], []⟩) := by
  induction n with
  | zero => exact ((fun _ _ _ _ h => by rw [l_szDequeActorS_l1] at h; cases h))
  | succ n ih =>
    have ih0 := ih
    · intro a0 p0_0 p0_1 r h
      rw [l_szDequeActorS_l1] at h
      refine posF_of rfl rfl ?_
      try simp only [go_sem]
      refine loop_i ?_
      try simp only [go_sem]
      refine cond_i (fun hb2 => ?_) (fun hb2 => ?_)
      · replace h := ifT (c := (decide (p0_1 < ((List.length a0 : Nat) : Int)))) hb2 h
        try simp only [go_sem]
        refine seq_go ?_
        try simp only [go_sem]
        replace h := bindE h
        obtain ⟨v8002, hv8002, h⟩ := h
        refine idx_m hv8002 (DequeActor.ds_len _) ?_
        try simp only [go_sem]
        replace h := bindE h
        obtain ⟨v8005, hv8005, h⟩ := h
        refine call_i (l_szDequeActor_ok _ _ _ hv8005) ?_
        try simp only [go_sem]
        refine cond_i (fun hb3 => ?_) (fun hb3 => ?_)
        · replace h := ifT (c := (decide (v8005 < 0))) hb3 h
          try simp only [go_sem]
          replace h := Option.some.inj h
          obtain rfl := h
          simp only [go_sem]
        · replace h := ifF (c := (decide (v8005 < 0))) hb3 h
          try simp only [go_sem]
          refine seq_go ?_
          try simp only [go_sem]
          have hj := posF_to rfl rfl (ih0 a0 v8005 (IntKind.i64.wrap (p0_1 + 1)) _ h)
          refine lp_to hj (.one ⟨_, .done _, [], [], ?_⟩)
          clear hj
          try simp only [go_sem]
      · replace h := ifF (c := (decide (p0_1 < ((List.length a0 : Nat) : Int)))) hb2 h
        try simp only [go_sem]
        refine seq_go ?_
        try simp only [go_sem]
        replace h := Option.some.inj h
        obtain rfl := h
        simp only [go_sem]
theorem l_szDequeActorS_l1_ok (n : Nat) : (∀ (a0 : List DequeActor) (p0_0 : Int) (p0_1 : Int) (r : Int), l_szDequeActorS_l1 n a0 p0_0 p0_1 = some r → posF Try.prog Try.f12 [1, 1, 1, 0, 1, 0] (.int .i64 r) ⟨[(0, .ro (List.map DequeActor.ds a0)), (1, .int .i64 p0_0), (5, .int .i64 p0_1)], [], []⟩) := (l_szDequeActorS_l1_all n)

theorem l_szDequeActorS_ok (a0 : List DequeActor) (a1 : Int) (r : Int) (h : l_szDequeActorS a0 a1 = some r) : AC Try.prog 12 [.ro (List.map DequeActor.ds a0), .int .i64 a1] (.int .i64 r) := by
  unfold l_szDequeActorS at h
  refine ac_fn mixed Try.func12 rfl rfl rfl (by kernel_rfl) (by kernel_rfl) ?_
  try simp only [go_sem]
  refine cond_i (fun hb1 => ?_) (fun hb1 => ?_)
  · replace h := ifT (c := (decide ((IntKind.i64.wrap (a1 - ((List.length a0 : Nat) : Int))) < 0))) hb1 h
    try simp only [go_sem]
    replace h := Option.some.inj h
    obtain rfl := h
    simp only [go_sem]
  · replace h := ifF (c := (decide ((IntKind.i64.wrap (a1 - ((List.length a0 : Nat) : Int))) < 0))) hb1 h
    try simp only [go_sem]
    refine seq_go ?_
    try simp only [go_sem]
    have hj := posF_to rfl rfl (l_szDequeActorS_l1_ok fuel a0 (IntKind.i64.wrap (a1 - ((List.length a0 : Nat) : Int))) 0 _ h)
    refine loop_to hj (.one ⟨_, .done _, [], [], ?_⟩)
    clear hj
    try simp only [go_sem]
theorem l_szHandedS_ok (a0 : List Handed) (a1 : Int) (r : Int) (h : l_szHandedS a0 a1 = some r) : AC Try.prog 13 [.ro (List.map Handed.ds a0), .int .i64 a1] (.int .i64 r) := by
  unfold l_szHandedS at h
  refine ac_fn mixed Try.func13 rfl rfl rfl (by kernel_rfl) (by kernel_rfl) ?_
  try simp only [go_sem]
  refine cond_i (fun hb1 => ?_) (fun hb1 => ?_)
  · replace h := ifT (c := (decide ((IntKind.i64.wrap (a1 - ((List.length a0 : Nat) : Int))) < 0))) hb1 h
    try simp only [go_sem]
    replace h := Option.some.inj h
    obtain rfl := h
    simp only [go_sem]
  · replace h := ifF (c := (decide ((IntKind.i64.wrap (a1 - ((List.length a0 : Nat) : Int))) < 0))) hb1 h
    try simp only [go_sem]
    refine seq_go ?_
    try simp only [go_sem]
    replace h := Option.some.inj h
    obtain rfl := h
    simp only [go_sem]
theorem l_szDeque_ok (a0 : Deque) (a1 : Int) (r : Int) (h : l_szDeque a0 a1 = some r) : AC Try.prog 4 [.agg (Deque.avs a0), .int .i64 a1] (.int .i64 r) := by
  unfold l_szDeque at h
  refine ac_fn mixed Try.func4 rfl rfl rfl (by kernel_rfl) (by kernel_rfl) ?_
  try simp only [go_sem]
  replace h := bindE h
  obtain ⟨v2003, hv2003, h⟩ := h
  refine call_i (l_szInt64S_ok _ _ _ hv2003) ?_
  try simp only [go_sem]
  refine cond_i (fun hb1 => ?_) (fun hb1 => ?_)
  · replace h := ifT (c := (decide (v2003 < 0))) hb1 h
    try simp only [go_sem]
    replace h := Option.some.inj h
    obtain rfl := h
    simp only [go_sem]
  · replace h := ifF (c := (decide (v2003 < 0))) hb1 h
    try simp only [go_sem]
    refine seq_go ?_
    try simp only [go_sem]
    replace h := bindE h
    obtain ⟨v5003, hv5003, h⟩ := h
    refine call_i (l_szDequeActorS_ok _ _ _ hv5003) ?_
    try simp only [go_sem]
    refine cond_i (fun hb2 => ?_) (fun hb2 => ?_)
    · replace h := ifT (c := (decide (v5003 < 0))) hb2 h
      try simp only [go_sem]
      replace h := Option.some.inj h
      obtain rfl := h
      simp only [go_sem]
    · replace h := ifF (c := (decide (v5003 < 0))) hb2 h
      try simp only [go_sem]
      refine seq_go ?_
      try simp only [go_sem]
      replace h := bindE h
      obtain ⟨v8003, hv8003, h⟩ := h
      refine call_i (l_szHandedS_ok _ _ _ hv8003) ?_
      try simp only [go_sem]
      refine cond_i (fun hb3 => ?_) (fun hb3 => ?_)
      · replace h := ifT (c := (decide (v8003 < 0))) hb3 h
        try simp only [go_sem]
        replace h := Option.some.inj h
        obtain rfl := h
        simp only [go_sem]
      · replace h := ifF (c := (decide (v8003 < 0))) hb3 h
        try simp only [go_sem]
        refine seq_go ?_
        try simp only [go_sem]
        replace h := bindE h
        obtain ⟨v11003, hv11003, h⟩ := h
        refine call_i (l_szInt64S_ok _ _ _ hv11003) ?_
        try simp only [go_sem]
        refine cond_i (fun hb4 => ?_) (fun hb4 => ?_)
        · replace h := ifT (c := (decide (v11003 < 0))) hb4 h
          try simp only [go_sem]
          replace h := Option.some.inj h
          obtain rfl := h
          simp only [go_sem]
        · replace h := ifF (c := (decide (v11003 < 0))) hb4 h
          try simp only [go_sem]
          refine seq_go ?_
          try simp only [go_sem]
          replace h := Option.some.inj h
          obtain rfl := h
          simp only [go_sem]
theorem l_toDequeActor_ok (a0 : DequeActor) (r : DequeActor) (h : l_toDequeActor a0 = some r) : AC Try.prog 31 [.agg (DequeActor.avs a0)] (.agg (DequeActor.rv r)) := by
  unfold l_toDequeActor at h
  refine ac_fn mixed Try.func31 rfl rfl rfl (by kernel_rfl) (by kernel_rfl) ?_
  try simp only [go_sem]
  replace h := bindE h
  obtain ⟨v3002, hv3002, h⟩ := h
  refine call_i (l_toInt64S_ok _ _ hv3002) ?_
  try simp only [go_sem]
  replace h := Option.some.inj h
  obtain rfl := h
  simp only [go_sem]
theorem l_toDequeActorS_l2_all (n : Nat) : (∀ (a0 : List DequeActor) (p1_0 : List DequeActor) (p1_1 : Int) (r : (List DequeActor)), l_toDequeActorS_l2 n a0 p1_0 p1_1 = some r → posF Try.prog Try.f17 [1, 1, 0, 1, 0] (.ow (some 5) (List.map DequeActor.ds r)) ⟨[(0, .ro (List.map DequeActor.ds a0)), (3, .own 1000001000), (4, .int .i64 p1_1)], [(1000001000, some ⟨List.map DequeActor.ds p1_0, some 5, 0⟩)], []⟩) := by
  induction n with
  | zero => exact ((fun _ _ _ _ h => by rw [l_toDequeActorS_l2] at h; cases h))
  | succ n ih =>
    have ih0 := ih
    · intro a0 p1_0 p1_1 r h
      rw [l_toDequeActorS_l2] at h
      refine posF_of rfl rfl ?_
      try simp only [go_sem]
      refine loop_i ?_
      try simp only [go_sem]
      refine cond_i (fun hb1 => ?_) (fun hb1 => ?_)
      · replace h := ifT (c := (decide (p1_1 < ((List.length a0 : Nat) : Int)))) hb1 h
        try simp only [go_sem]
        refine seq_go ?_
        try simp only [go_sem]
        replace h := bindE h
        obtain ⟨v6004, hv6004, h⟩ := h
        refine idx_m hv6004 (DequeActor.ds_len _) ?_
        try simp only [go_sem]
        replace h := bindE h
        obtain ⟨v6006, hv6006, h⟩ := h
        refine call_i (l_toDequeActor_ok _ _ hv6006) ?_
        try simp only [go_sem]
        replace h := bindE h
        obtain ⟨v6007, hv6007, h⟩ := h
        refine idx_m hv6007 (DequeActor.ds_len _) ?_
        try simp only [go_sem]
        replace h := bindE h
        obtain ⟨v6008_12, hv6008_12, h⟩ := h
        refine opt_i (row_m hv6007) ?_
        try simp only [go_sem]
        refine row_i (List.map DequeActor.ds v6008_12) (by rw [← set1_some hv6008_12]; simp only [List.map_set, go_sem, DequeActor.ds_eq]) ?_
        try simp only [go_sem]
        refine seq_go ?_
        try simp only [go_sem]
        have hj := posF_to rfl rfl (ih0 a0 v6008_12 (IntKind.i64.wrap (p1_1 + 1)) _ h)
        refine lp_to hj (.one ⟨_, .done _, [(1000001000, 1000001000)], [], ?_⟩)
        clear hj
        try simp only [go_sem]
      · replace h := ifF (c := (decide (p1_1 < ((List.length a0 : Nat) : Int)))) hb1 h
        try simp only [go_sem]
        refine seq_go ?_
        try simp only [go_sem]
        replace h := Option.some.inj h
        obtain rfl := h
        simp only [go_sem]
theorem l_toDequeActorS_l2_ok (n : Nat) : (∀ (a0 : List DequeActor) (p1_0 : List DequeActor) (p1_1 : Int) (r : (List DequeActor)), l_toDequeActorS_l2 n a0 p1_0 p1_1 = some r → posF Try.prog Try.f17 [1, 1, 0, 1, 0] (.ow (some 5) (List.map DequeActor.ds r)) ⟨[(0, .ro (List.map DequeActor.ds a0)), (3, .own 1000001000), (4, .int .i64 p1_1)], [(1000001000, some ⟨List.map DequeActor.ds p1_0, some 5, 0⟩)], []⟩) := (l_toDequeActorS_l2_all n)

theorem l_toDequeActorS_ok (a0 : List DequeActor) (r : (List DequeActor)) (h : l_toDequeActorS a0 = some r) : AC Try.prog 17 [.ro (List.map DequeActor.ds a0)] (.ow (some 5) (List.map DequeActor.ds r)) := by
  unfold l_toDequeActorS at h
  refine ac_fn mixed Try.func17 rfl rfl rfl (by kernel_rfl) (by kernel_rfl) ?_
  try simp only [go_sem]
  replace h := bindE h
  obtain ⟨v2002, hv2002, h⟩ := h
  have hq_ := rep_some hv2002
  obtain ⟨hv2002a, hv2002b, hv2002c⟩ := hq_
  refine and_i (by refine ⟨?_, ?_, ?_⟩ <;> omega) ?_
  try simp only [go_sem]
  refine row_i (List.map DequeActor.ds v2002) (by rw [← hv2002c]; simp only [List.map_replicate, go_sem, DequeActor.ds_eq]) ?_
  try simp only [go_sem]
  have hj := posF_to rfl rfl (l_toDequeActorS_l2_ok fuel a0 v2002 0 _ h)
  refine loop_to hj (.one ⟨_, .done _, [(1000001000, 32032)], [], ?_⟩)
  clear hj
  try simp only [go_sem]
theorem l_toHanded_ok (a0 : Handed) (r : Handed) (h : l_toHanded a0 = some r) : AC Try.prog 32 [.agg (Handed.avs a0)] (.agg (Handed.rv r)) := by
  unfold l_toHanded at h
  refine ac_fn mixed Try.func32 rfl rfl rfl (by kernel_rfl) (by kernel_rfl) ?_
  try simp only [go_sem]
  replace h := Option.some.inj h
  obtain rfl := h
  simp only [go_sem]
theorem l_toHandedS_l2_all (n : Nat) : (∀ (a0 : List Handed) (p1_0 : List Handed) (p1_1 : Int) (r : (List Handed)), l_toHandedS_l2 n a0 p1_0 p1_1 = some r → posF Try.prog Try.f18 [1, 1, 0, 1, 0] (.ow (some 2) (List.map Handed.ds r)) ⟨[(0, .ro (List.map Handed.ds a0)), (3, .own 1000001000), (4, .int .i64 p1_1)], [(1000001000, some ⟨List.map Handed.ds p1_0, some 2, 0⟩)], []⟩) := by
  induction n with
  | zero => exact ((fun _ _ _ _ h => by rw [l_toHandedS_l2] at h; cases h))
  | succ n ih =>
    have ih0 := ih
    · intro a0 p1_0 p1_1 r h
      rw [l_toHandedS_l2] at h
      refine posF_of rfl rfl ?_
      try simp only [go_sem]
      refine loop_i ?_
      try simp only [go_sem]
      refine cond_i (fun hb1 => ?_) (fun hb1 => ?_)
      · replace h := ifT (c := (decide (p1_1 < ((List.length a0 : Nat) : Int)))) hb1 h
        try simp only [go_sem]
        refine seq_go ?_
        try simp only [go_sem]
        replace h := bindE h
        obtain ⟨v6004, hv6004, h⟩ := h
        refine idx_m hv6004 (Handed.ds_len _) ?_
        try simp only [go_sem]
        replace h := bindE h
        obtain ⟨v6006, hv6006, h⟩ := h
        refine call_i (l_toHanded_ok _ _ hv6006) ?_
        try simp only [go_sem]
        replace h := bindE h
        obtain ⟨v6007, hv6007, h⟩ := h
        refine idx_m hv6007 (Handed.ds_len _) ?_
        try simp only [go_sem]
        replace h := bindE h
        obtain ⟨v6008_12, hv6008_12, h⟩ := h
        refine opt_i (row_m hv6007) ?_
        try simp only [go_sem]
        refine row_i (List.map Handed.ds v6008_12) (by rw [← set1_some hv6008_12]; simp only [List.map_set, go_sem, Handed.ds_eq]) ?_
        try simp only [go_sem]
        refine seq_go ?_
        try simp only [go_sem]
        have hj := posF_to rfl rfl (ih0 a0 v6008_12 (IntKind.i64.wrap (p1_1 + 1)) _ h)
        refine lp_to hj (.one ⟨_, .done _, [(1000001000, 1000001000)], [], ?_⟩)
        clear hj
        try simp only [go_sem]
      · replace h := ifF (c := (decide (p1_1 < ((List.length a0 : Nat) : Int)))) hb1 h
        try simp only [go_sem]
        refine seq_go ?_
        try simp only [go_sem]
        replace h := Option.some.inj h
        obtain rfl := h
        simp only [go_sem]
theorem l_toHandedS_l2_ok (n : Nat) : (∀ (a0 : List Handed) (p1_0 : List Handed) (p1_1 : Int) (r : (List Handed)), l_toHandedS_l2 n a0 p1_0 p1_1 = some r → posF Try.prog Try.f18 [1, 1, 0, 1, 0] (.ow (some 2) (List.map Handed.ds r)) ⟨[(0, .ro (List.map Handed.ds a0)), (3, .own 1000001000), (4, .int .i64 p1_1)], [(1000001000, some ⟨List.map Handed.ds p1_0, some 2, 0⟩)], []⟩) := (l_toHandedS_l2_all n)

theorem l_toHandedS_ok (a0 : List Handed) (r : (List Handed)) (h : l_toHandedS a0 = some r) : AC Try.prog 18 [.ro (List.map Handed.ds a0)] (.ow (some 2) (List.map Handed.ds r)) := by
  unfold l_toHandedS at h
  refine ac_fn mixed Try.func18 rfl rfl rfl (by kernel_rfl) (by kernel_rfl) ?_
  try simp only [go_sem]
  replace h := bindE h
  obtain ⟨v2002, hv2002, h⟩ := h
  have hq_ := rep_some hv2002
  obtain ⟨hv2002a, hv2002b, hv2002c⟩ := hq_
  refine and_i (by refine ⟨?_, ?_, ?_⟩ <;> omega) ?_
  try simp only [go_sem]
  refine row_i (List.map Handed.ds v2002) (by rw [← hv2002c]; simp only [List.map_replicate, go_sem, Handed.ds_eq]) ?_
  try simp only [go_sem]
  have hj := posF_to rfl rfl (l_toHandedS_l2_ok fuel a0 v2002 0 _ h)
  refine loop_to hj (.one ⟨_, .done _, [(1000001000, 32032)], [], ?_⟩)
  clear hj
  try simp only [go_sem]
theorem l_toDeque_ok (a0 : Deque) (r : Deque) (h : l_toDeque a0 = some r) : AC Try.prog 6 [.agg (Deque.avs a0)] (.agg (Deque.rv r)) := by
  unfold l_toDeque at h
  refine ac_fn mixed Try.func6 rfl rfl rfl (by kernel_rfl) (by kernel_rfl) ?_
  try simp only [go_sem]
  replace h := bindE h
  obtain ⟨v5002, hv5002, h⟩ := h
  refine call_i (l_toInt64S_ok _ _ hv5002) ?_
  try simp only [go_sem]
  replace h := bindE h
  obtain ⟨v6002, hv6002, h⟩ := h
  refine call_i (l_toDequeActorS_ok _ _ hv6002) ?_
  try simp only [go_sem]
  replace h := bindE h
  obtain ⟨v7002, hv7002, h⟩ := h
  refine call_i (l_toHandedS_ok _ _ hv7002) ?_
  try simp only [go_sem]
  replace h := bindE h
  obtain ⟨v8002, hv8002, h⟩ := h
  refine call_i (l_toInt64S_ok _ _ hv8002) ?_
  try simp only [go_sem]
  replace h := Option.some.inj h
  obtain rfl := h
  simp only [go_sem]
theorem l_eqDequeActor_ok (a0 : DequeActor) (a1 : DequeActor) (r : Bool) (h : l_eqDequeActor a0 a1 = some r) : AC Try.prog 41 [.agg (DequeActor.avs a0), .agg (DequeActor.avs a1)] (.bool r) := by
  unfold l_eqDequeActor at h
  refine ac_fn mixed Try.func41 rfl rfl rfl (by kernel_rfl) (by kernel_rfl) ?_
  try simp only [go_sem]
  replace h := bindE h
  obtain ⟨v2004, hv2004, h⟩ := h
  refine call_i (l_eqInt64S_ok _ _ _ hv2004) ?_
  try simp only [go_sem]
  refine cond_i (fun hb1 => ?_) (fun hb1 => ?_)
  · replace h := ifT (c := (!v2004)) hb1 h
    try simp only [go_sem]
    replace h := Option.some.inj h
    obtain rfl := h
    simp only [go_sem]
  · replace h := ifF (c := (!v2004)) hb1 h
    try simp only [go_sem]
    refine seq_go ?_
    try simp only [go_sem]
    refine cond_i (fun hb2 => ?_) (fun hb2 => ?_)
    · replace h := ifT (c := (!decide (a0.pc = a1.pc))) hb2 h
      try simp only [go_sem]
      replace h := Option.some.inj h
      obtain rfl := h
      simp only [go_sem]
    · replace h := ifF (c := (!decide (a0.pc = a1.pc))) hb2 h
      try simp only [go_sem]
      refine seq_go ?_
      try simp only [go_sem]
      refine cond_i (fun hb3 => ?_) (fun hb3 => ?_)
      · replace h := ifT (c := (!decide (a0.t = a1.t))) hb3 h
        try simp only [go_sem]
        replace h := Option.some.inj h
        obtain rfl := h
        simp only [go_sem]
      · replace h := ifF (c := (!decide (a0.t = a1.t))) hb3 h
        try simp only [go_sem]
        refine seq_go ?_
        try simp only [go_sem]
        refine cond_i (fun hb4 => ?_) (fun hb4 => ?_)
        · replace h := ifT (c := (!decide (a0.b = a1.b))) hb4 h
          try simp only [go_sem]
          replace h := Option.some.inj h
          obtain rfl := h
          simp only [go_sem]
        · replace h := ifF (c := (!decide (a0.b = a1.b))) hb4 h
          try simp only [go_sem]
          refine seq_go ?_
          try simp only [go_sem]
          refine cond_i (fun hb5 => ?_) (fun hb5 => ?_)
          · replace h := ifT (c := (!decide (a0.x = a1.x))) hb5 h
            try simp only [go_sem]
            replace h := Option.some.inj h
            obtain rfl := h
            simp only [go_sem]
          · replace h := ifF (c := (!decide (a0.x = a1.x))) hb5 h
            try simp only [go_sem]
            refine seq_go ?_
            try simp only [go_sem]
            replace h := Option.some.inj h
            obtain rfl := h
            simp only [go_sem]
theorem l_eqDequeActorS_l1_all (n : Nat) : (∀ (a0 : List DequeActor) (a1 : List DequeActor) (p0_0 : Int) (r : Bool), l_eqDequeActorS_l1 n a0 a1 p0_0 = some r → posF Try.prog Try.f21 [1, 1, 0, 1, 0] (.bool r) ⟨[(0, .ro (List.map DequeActor.ds a0)), (1, .ro (List.map DequeActor.ds a1)), (5, .int .i64 p0_0)], [], []⟩) := by
  induction n with
  | zero => exact ((fun _ _ _ _ h => by rw [l_eqDequeActorS_l1] at h; cases h))
  | succ n ih =>
    have ih0 := ih
    · intro a0 a1 p0_0 r h
      rw [l_eqDequeActorS_l1] at h
      refine posF_of rfl rfl ?_
      try simp only [go_sem]
      refine loop_i ?_
      try simp only [go_sem]
      refine cond_i (fun hb2 => ?_) (fun hb2 => ?_)
      · replace h := ifT (c := (decide (p0_0 < ((List.length a0 : Nat) : Int)))) hb2 h
        try simp only [go_sem]
        refine seq_go ?_
        try simp only [go_sem]
        refine draw_i [] .fin (by kernel_rfl) ?_
        try simp only [go_sem]
        replace h := bindE h
        obtain ⟨v7002, hv7002, h⟩ := h
        refine idx_m hv7002 (DequeActor.ds_len _) ?_
        try simp only [go_sem]
        replace h := bindE h
        obtain ⟨v7006, hv7006, h⟩ := h
        refine idx_m hv7006 (DequeActor.ds_len _) ?_
        try simp only [go_sem]
        replace h := bindE h
        obtain ⟨v7008, hv7008, h⟩ := h
        refine call_i (l_eqDequeActor_ok _ _ _ hv7008) ?_
        try simp only [go_sem]
        refine seq_go ?_
        try simp only [go_sem]
        refine cond_i (fun hb3 => ?_) (fun hb3 => ?_)
        · replace h := ifT (c := (!v7008)) hb3 h
          try simp only [go_sem]
          replace h := Option.some.inj h
          obtain rfl := h
          simp only [go_sem]
        · replace h := ifF (c := (!v7008)) hb3 h
          try simp only [go_sem]
          refine seq_go ?_
          try simp only [go_sem]
          have hj := posF_to rfl rfl (ih0 a0 a1 (IntKind.i64.wrap (p0_0 + 1)) _ h)
          refine lp_to hj (.one ⟨_, .done _, [], [], ?_⟩)
          clear hj
          try simp only [go_sem]
      · replace h := ifF (c := (decide (p0_0 < ((List.length a0 : Nat) : Int)))) hb2 h
        try simp only [go_sem]
        refine seq_go ?_
        try simp only [go_sem]
        replace h := Option.some.inj h
        obtain rfl := h
        simp only [go_sem]
theorem l_eqDequeActorS_l1_ok (n : Nat) : (∀ (a0 : List DequeActor) (a1 : List DequeActor) (p0_0 : Int) (r : Bool), l_eqDequeActorS_l1 n a0 a1 p0_0 = some r → posF Try.prog Try.f21 [1, 1, 0, 1, 0] (.bool r) ⟨[(0, .ro (List.map DequeActor.ds a0)), (1, .ro (List.map DequeActor.ds a1)), (5, .int .i64 p0_0)], [], []⟩) := (l_eqDequeActorS_l1_all n)

theorem l_eqDequeActorS_ok (a0 : List DequeActor) (a1 : List DequeActor) (r : Bool) (h : l_eqDequeActorS a0 a1 = some r) : AC Try.prog 21 [.ro (List.map DequeActor.ds a0), .ro (List.map DequeActor.ds a1)] (.bool r) := by
  unfold l_eqDequeActorS at h
  refine ac_fn mixed Try.func21 rfl rfl rfl (by kernel_rfl) (by kernel_rfl) ?_
  try simp only [go_sem]
  refine cond_i (fun hb1 => ?_) (fun hb1 => ?_)
  · replace h := ifT (c := (!decide (((List.length a0 : Nat) : Int) = ((List.length a1 : Nat) : Int)))) hb1 h
    try simp only [go_sem]
    replace h := Option.some.inj h
    obtain rfl := h
    simp only [go_sem]
  · replace h := ifF (c := (!decide (((List.length a0 : Nat) : Int) = ((List.length a1 : Nat) : Int)))) hb1 h
    try simp only [go_sem]
    refine seq_go ?_
    try simp only [go_sem]
    have hj := posF_to rfl rfl (l_eqDequeActorS_l1_ok fuel a0 a1 0 _ h)
    refine loop_to hj (.one ⟨_, .done _, [], [], ?_⟩)
    clear hj
    try simp only [go_sem]
theorem l_eqHanded_ok (a0 : Handed) (a1 : Handed) (r : Bool) (h : l_eqHanded a0 a1 = some r) : AC Try.prog 42 [.agg (Handed.avs a0), .agg (Handed.avs a1)] (.bool r) := by
  unfold l_eqHanded at h
  refine ac_fn mixed Try.func42 rfl rfl rfl (by kernel_rfl) (by kernel_rfl) ?_
  try simp only [go_sem]
  refine cond_i (fun hb1 => ?_) (fun hb1 => ?_)
  · replace h := ifT (c := (!decide (a0.actor = a1.actor))) hb1 h
    try simp only [go_sem]
    replace h := Option.some.inj h
    obtain rfl := h
    simp only [go_sem]
  · replace h := ifF (c := (!decide (a0.actor = a1.actor))) hb1 h
    try simp only [go_sem]
    refine seq_go ?_
    try simp only [go_sem]
    refine cond_i (fun hb2 => ?_) (fun hb2 => ?_)
    · replace h := ifT (c := (!decide (a0.value = a1.value))) hb2 h
      try simp only [go_sem]
      replace h := Option.some.inj h
      obtain rfl := h
      simp only [go_sem]
    · replace h := ifF (c := (!decide (a0.value = a1.value))) hb2 h
      try simp only [go_sem]
      refine seq_go ?_
      try simp only [go_sem]
      replace h := Option.some.inj h
      obtain rfl := h
      simp only [go_sem]
theorem l_eqHandedS_l1_all (n : Nat) : (∀ (a0 : List Handed) (a1 : List Handed) (p0_0 : Int) (r : Bool), l_eqHandedS_l1 n a0 a1 p0_0 = some r → posF Try.prog Try.f22 [1, 1, 0, 1, 0] (.bool r) ⟨[(0, .ro (List.map Handed.ds a0)), (1, .ro (List.map Handed.ds a1)), (5, .int .i64 p0_0)], [], []⟩) := by
  induction n with
  | zero => exact ((fun _ _ _ _ h => by rw [l_eqHandedS_l1] at h; cases h))
  | succ n ih =>
    have ih0 := ih
    · intro a0 a1 p0_0 r h
      rw [l_eqHandedS_l1] at h
      refine posF_of rfl rfl ?_
      try simp only [go_sem]
      refine loop_i ?_
      try simp only [go_sem]
      refine cond_i (fun hb2 => ?_) (fun hb2 => ?_)
      · replace h := ifT (c := (decide (p0_0 < ((List.length a0 : Nat) : Int)))) hb2 h
        try simp only [go_sem]
        refine seq_go ?_
        try simp only [go_sem]
        refine draw_i [] .fin (by kernel_rfl) ?_
        try simp only [go_sem]
        replace h := bindE h
        obtain ⟨v7002, hv7002, h⟩ := h
        refine idx_m hv7002 (Handed.ds_len _) ?_
        try simp only [go_sem]
        replace h := bindE h
        obtain ⟨v7006, hv7006, h⟩ := h
        refine idx_m hv7006 (Handed.ds_len _) ?_
        try simp only [go_sem]
        replace h := bindE h
        obtain ⟨v7008, hv7008, h⟩ := h
        refine call_i (l_eqHanded_ok _ _ _ hv7008) ?_
        try simp only [go_sem]
        refine seq_go ?_
        try simp only [go_sem]
        refine cond_i (fun hb3 => ?_) (fun hb3 => ?_)
        · replace h := ifT (c := (!v7008)) hb3 h
          try simp only [go_sem]
          replace h := Option.some.inj h
          obtain rfl := h
          simp only [go_sem]
        · replace h := ifF (c := (!v7008)) hb3 h
          try simp only [go_sem]
          refine seq_go ?_
          try simp only [go_sem]
          have hj := posF_to rfl rfl (ih0 a0 a1 (IntKind.i64.wrap (p0_0 + 1)) _ h)
          refine lp_to hj (.one ⟨_, .done _, [], [], ?_⟩)
          clear hj
          try simp only [go_sem]
      · replace h := ifF (c := (decide (p0_0 < ((List.length a0 : Nat) : Int)))) hb2 h
        try simp only [go_sem]
        refine seq_go ?_
        try simp only [go_sem]
        replace h := Option.some.inj h
        obtain rfl := h
        simp only [go_sem]
theorem l_eqHandedS_l1_ok (n : Nat) : (∀ (a0 : List Handed) (a1 : List Handed) (p0_0 : Int) (r : Bool), l_eqHandedS_l1 n a0 a1 p0_0 = some r → posF Try.prog Try.f22 [1, 1, 0, 1, 0] (.bool r) ⟨[(0, .ro (List.map Handed.ds a0)), (1, .ro (List.map Handed.ds a1)), (5, .int .i64 p0_0)], [], []⟩) := (l_eqHandedS_l1_all n)

theorem l_eqHandedS_ok (a0 : List Handed) (a1 : List Handed) (r : Bool) (h : l_eqHandedS a0 a1 = some r) : AC Try.prog 22 [.ro (List.map Handed.ds a0), .ro (List.map Handed.ds a1)] (.bool r) := by
  unfold l_eqHandedS at h
  refine ac_fn mixed Try.func22 rfl rfl rfl (by kernel_rfl) (by kernel_rfl) ?_
  try simp only [go_sem]
  refine cond_i (fun hb1 => ?_) (fun hb1 => ?_)
  · replace h := ifT (c := (!decide (((List.length a0 : Nat) : Int) = ((List.length a1 : Nat) : Int)))) hb1 h
    try simp only [go_sem]
    replace h := Option.some.inj h
    obtain rfl := h
    simp only [go_sem]
  · replace h := ifF (c := (!decide (((List.length a0 : Nat) : Int) = ((List.length a1 : Nat) : Int)))) hb1 h
    try simp only [go_sem]
    refine seq_go ?_
    try simp only [go_sem]
    have hj := posF_to rfl rfl (l_eqHandedS_l1_ok fuel a0 a1 0 _ h)
    refine loop_to hj (.one ⟨_, .done _, [], [], ?_⟩)
    clear hj
    try simp only [go_sem]
theorem l_eqDeque_ok (a0 : Deque) (a1 : Deque) (r : Bool) (h : l_eqDeque a0 a1 = some r) : AC Try.prog 9 [.agg (Deque.avs a0), .agg (Deque.avs a1)] (.bool r) := by
  unfold l_eqDeque at h
  refine ac_fn mixed Try.func9 rfl rfl rfl (by kernel_rfl) (by kernel_rfl) ?_
  try simp only [go_sem]
  refine cond_i (fun hb1 => ?_) (fun hb1 => ?_)
  · replace h := ifT (c := (!decide (a0.top = a1.top))) hb1 h
    try simp only [go_sem]
    replace h := Option.some.inj h
    obtain rfl := h
    simp only [go_sem]
  · replace h := ifF (c := (!decide (a0.top = a1.top))) hb1 h
    try simp only [go_sem]
    refine seq_go ?_
    try simp only [go_sem]
    refine cond_i (fun hb2 => ?_) (fun hb2 => ?_)
    · replace h := ifT (c := (!decide (a0.bottom = a1.bottom))) hb2 h
      try simp only [go_sem]
      replace h := Option.some.inj h
      obtain rfl := h
      simp only [go_sem]
    · replace h := ifF (c := (!decide (a0.bottom = a1.bottom))) hb2 h
      try simp only [go_sem]
      refine seq_go ?_
      try simp only [go_sem]
      replace h := bindE h
      obtain ⟨v6004, hv6004, h⟩ := h
      refine call_i (l_eqInt64S_ok _ _ _ hv6004) ?_
      try simp only [go_sem]
      refine cond_i (fun hb3 => ?_) (fun hb3 => ?_)
      · replace h := ifT (c := (!v6004)) hb3 h
        try simp only [go_sem]
        replace h := Option.some.inj h
        obtain rfl := h
        simp only [go_sem]
      · replace h := ifF (c := (!v6004)) hb3 h
        try simp only [go_sem]
        refine seq_go ?_
        try simp only [go_sem]
        replace h := bindE h
        obtain ⟨v8004, hv8004, h⟩ := h
        refine call_i (l_eqDequeActorS_ok _ _ _ hv8004) ?_
        try simp only [go_sem]
        refine cond_i (fun hb4 => ?_) (fun hb4 => ?_)
        · replace h := ifT (c := (!v8004)) hb4 h
          try simp only [go_sem]
          replace h := Option.some.inj h
          obtain rfl := h
          simp only [go_sem]
        · replace h := ifF (c := (!v8004)) hb4 h
          try simp only [go_sem]
          refine seq_go ?_
          try simp only [go_sem]
          replace h := bindE h
          obtain ⟨v10004, hv10004, h⟩ := h
          refine call_i (l_eqHandedS_ok _ _ _ hv10004) ?_
          try simp only [go_sem]
          refine cond_i (fun hb5 => ?_) (fun hb5 => ?_)
          · replace h := ifT (c := (!v10004)) hb5 h
            try simp only [go_sem]
            replace h := Option.some.inj h
            obtain rfl := h
            simp only [go_sem]
          · replace h := ifF (c := (!v10004)) hb5 h
            try simp only [go_sem]
            refine seq_go ?_
            try simp only [go_sem]
            replace h := bindE h
            obtain ⟨v12004, hv12004, h⟩ := h
            refine call_i (l_eqInt64S_ok _ _ _ hv12004) ?_
            try simp only [go_sem]
            refine cond_i (fun hb6 => ?_) (fun hb6 => ?_)
            · replace h := ifT (c := (!v12004)) hb6 h
              try simp only [go_sem]
              replace h := Option.some.inj h
              obtain rfl := h
              simp only [go_sem]
            · replace h := ifF (c := (!v12004)) hb6 h
              try simp only [go_sem]
              refine seq_go ?_
              try simp only [go_sem]
              replace h := Option.some.inj h
              obtain rfl := h
              simp only [go_sem]
end Go.Proofs.Ytckcfdggbbabfaa.Ab
