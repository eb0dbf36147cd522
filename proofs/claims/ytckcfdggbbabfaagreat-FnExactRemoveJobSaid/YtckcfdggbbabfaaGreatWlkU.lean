/-
 The functions do what their models say. Printed by wip/ab/gen.py.
-/
import Derived.Test.YtckcfdggbbabfaaGreatModU
import Derived.Test.YtckcfdggbbabfaaGreatTi2
import Derived.Test.YtckcfdggbbabfaaGreatWlk
namespace Go.Proofs.YtckcfdggbbabfaaGreat.Ab
set_option linter.unusedVariables false
set_option linter.unusedSimpArgs false
set_option maxRecDepth 20000
set_option maxHeartbeats 4000000
open Go.RowKit
theorem l_markPortS_l1_ok (n : Nat) : (∀ (p0_0 : List Port) (p0_1 : Int) (p0_2 : Int) (z1 : Option Nat) (r : Int × (List Port)), l_markPortS_l1 n p0_0 p0_1 p0_2 = some r → posG Tryz.prog Tryz.f120 [1, 0, 1, 0] (.int .i64 r.1) [(1, ⟨List.map Port.ds r.2, z1, 0, false⟩)] [] ⟨[(0, .own 1), (1, .int .i64 p0_1), (5, .int .i64 p0_2)], [(1, some ⟨List.map Port.ds p0_0, z1, 0, false⟩)], []⟩) := by
 induction n with
 | zero => exact ((fun _ _ _ _ _ h => by rw [l_markPortS_l1] at h; cases h))
 | succ n ih =>
  have ih0 := ih
  ·intro p0_0 p0_1 p0_2 z1 r h
   rw [l_markPortS_l1] at h
   refine posG_of rfl rfl ?_
   try simp only [go_sem]
   refine loop_i ?_
   try simp only [go_sem]
   refine cond_i (fun hb1 => ?_) (fun hb1 => ?_)
   ·replace h := ifT (c := (decide (p0_2 < ((List.length p0_0 : Nat) : Int)))) hb1 h
    try simp only [go_sem]
    refine seq_go ?_
    try simp only [go_sem]
    replace h := bindE h
    obtain ⟨v5003, hv5003, h⟩ := h
    refine idx_m hv5003 (Port.ds_len _) ?_
    try simp only [go_sem]
    replace h := bindE h
    obtain ⟨v5005_15, hv5005_15, h⟩ := h
    refine opt_i (row_m hv5003) ?_
    try simp only [go_sem]
    refine row_i (List.map Port.ds v5005_15) (by rw [← set1_some hv5005_15]; simp only [List.map_set, go_sem, Port.ds_eq]) ?_
    try simp only [go_sem]
    replace h := bindE h
    obtain ⟨v7003, hv7003, h⟩ := h
    refine idx_m hv7003 (Port.ds_len _) ?_
    try simp only [go_sem]
    replace h := bindE h
    obtain ⟨v7005_16, hv7005_16, h⟩ := h
    refine opt_i (row_m hv7003) ?_
    try simp only [go_sem]
    refine row_i (List.map Port.ds v7005_16) (by rw [← set1_some hv7005_16]; simp only [List.map_set, go_sem, Port.ds_eq]) ?_
    try simp only [go_sem]
    refine seq_go ?_
    try simp only [go_sem]
    have hj := posG_to rfl rfl (ih0 v7005_16 (IntKind.i64.wrap ((IntKind.i64.wrap (p0_1 + 1)) + 1)) (IntKind.i64.wrap (p0_2 + 1)) z1 _ h)
    refine lp_to hj (.one ⟨_, .done _, [(1, 1)], [], ?_⟩)
    clear hj
    try simp only [go_sem]
   ·replace h := ifF (c := (decide (p0_2 < ((List.length p0_0 : Nat) : Int)))) hb1 h
    try simp only [go_sem]
    refine seq_go ?_
    try simp only [go_sem]
    cases h
    refine ret_i (.done _) [(1, 1)] [] ?_
    simp only [go_sem]
theorem l_markPortS_ok (a0 : List Port) (a1 : Int) (z1 : Option Nat) (r : Int × (List Port)) (h : l_markPortS a0 a1 = some r) : AG Tryz.prog 120 [.own 1, .int .i64 a1] [(1, ⟨List.map Port.ds a0, z1, 0, false⟩)] [] (.int .i64 r.1) [(1, ⟨List.map Port.ds r.2, z1, 0, false⟩)] [] := by
 unfold l_markPortS at h
 refine ag_fn mixed Tryz.func120 rfl rfl rfl (by kernel_rfl) (by kernel_rfl) ?_
 try simp only [go_sem]
 have hj := posG_to rfl rfl (l_markPortS_l1_ok fuel a0 a1 0 z1 _ h)
 refine loop_to hj (.one ⟨_, .done _, [(1, 1)], [], ?_⟩)
 clear hj
 try simp only [go_sem]
theorem l_markAgentS_l1_ok (n : Nat) : (∀ (p0_0 : List Agent) (p0_1 : Int) (p0_2 : Int) (z1 : Option Nat) (r : Int × (List Agent)), l_markAgentS_l1 n p0_0 p0_1 p0_2 = some r → posG Tryz.prog Tryz.f71 [1, 0, 1, 0] (.int .i64 r.1) [(1, ⟨List.map Agent.ds r.2, z1, 0, false⟩)] [] ⟨[(0, .own 1), (1, .int .i64 p0_1), (5, .int .i64 p0_2)], [(1, some ⟨List.map Agent.ds p0_0, z1, 0, false⟩)], []⟩) := by
 induction n with
 | zero => exact ((fun _ _ _ _ _ h => by rw [l_markAgentS_l1] at h; cases h))
 | succ n ih =>
  have ih0 := ih
  ·intro p0_0 p0_1 p0_2 z1 r h
   rw [l_markAgentS_l1] at h
   refine posG_of rfl rfl ?_
   try simp only [go_sem]
   refine loop_i ?_
   try simp only [go_sem]
   refine cond_i (fun hb1 => ?_) (fun hb1 => ?_)
   ·replace h := ifT (c := (decide (p0_2 < ((List.length p0_0 : Nat) : Int)))) hb1 h
    try simp only [go_sem]
    refine seq_go ?_
    try simp only [go_sem]
    replace h := bindE h
    obtain ⟨v5003, hv5003, h⟩ := h
    refine idx_m hv5003 (Agent.ds_len _) ?_
    try simp only [go_sem]
    replace h := bindE h
    obtain ⟨v5005_43, hv5005_43, h⟩ := h
    refine opt_i (row_m hv5003) ?_
    try simp only [go_sem]
    refine row_i (List.map Agent.ds v5005_43) (by rw [← set1_some hv5005_43]; simp only [List.map_set, go_sem, Agent.ds_eq]) ?_
    try simp only [go_sem]
    replace h := bindE h
    obtain ⟨v7003, hv7003, h⟩ := h
    refine idx_m hv7003 (Agent.ds_len _) ?_
    try simp only [go_sem]
    replace h := bindE h
    obtain ⟨v7005_44, hv7005_44, h⟩ := h
    refine opt_i (row_m hv7003) ?_
    try simp only [go_sem]
    refine row_i (List.map Agent.ds v7005_44) (by rw [← set1_some hv7005_44]; simp only [List.map_set, go_sem, Agent.ds_eq]) ?_
    try simp only [go_sem]
    replace h := bindE h
    obtain ⟨v9003, hv9003, h⟩ := h
    refine idx_m hv9003 (Agent.ds_len _) ?_
    try simp only [go_sem]
    replace h := bindE h
    obtain ⟨v9005_45, hv9005_45, h⟩ := h
    refine opt_i (row_m hv9003) ?_
    try simp only [go_sem]
    refine row_i (List.map Agent.ds v9005_45) (by rw [← set1_some hv9005_45]; simp only [List.map_set, go_sem, Agent.ds_eq]) ?_
    try simp only [go_sem]
    replace h := bindE h
    obtain ⟨v11002, hv11002, h⟩ := h
    refine idx_m hv11002 (Agent.ds_len _) ?_
    try simp only [go_sem]
    refine opt_i (row_m hv11002) ?_
    try simp only [go_sem]
    replace h := bindE h
    obtain ⟨v11006, hv11006, h⟩ := h
    replace h := bindE h
    obtain ⟨v11006_47, hv11006_47, h⟩ := h
    refine call_g ⟨[(3000176096, .sub 1 0 [(5, Int.toNat p0_2, 3)], none)], [(1, 3000176096)], [], [], [], true⟩ (by kernel_rfl) (l_markInt64S_ok _ _ none _ hv11006) (by kernel_rfl) ?_
    try simp only [go_sem]
    refine opt_i (getP_1 (r := List.map i64D v11002.data) (row_m hv11002) (Agent.ds_len _) (by simp only [go_sem, Agent.ds_eq])) ?_
    try simp only [go_sem]
    refine row_i ((List.map Agent.ds v9005_45).set (Int.toNat p0_2) [.int .i64 v11002.kind, .int .i64 v11002.level, .int .i64 v11002.value, .gone, .sl (List.map Port.ds v11002.ports)]) ((putR_1 (row_m hv11002) (d' := .sl (List.map i64D v11002.data)) (by simp only [go_sem, Agent.ds_eq])).trans (by simp only [go_sem, Agent.ds_eq])) ?_
    try simp only [go_sem]
    refine and_i (getC_1 (set_at (row_m hv11002)) rfl rfl) ?_
    try simp only [go_sem]
    refine row_i (List.map Agent.ds v11006_47) (((putR_1 (set_at (row_m hv11002)) (d' := .gone) rfl).trans (List.set_set ..)).trans (by rw [← set1_some hv11006_47]; simp only [List.map_set, go_sem, Agent.ds_eq])) ?_
    try simp only [go_sem]
    refine seq_go ?_
    try simp only [go_sem]
    replace h := bindE h
    obtain ⟨v12002, hv12002, h⟩ := h
    refine idx_m hv12002 (Agent.ds_len _) ?_
    try simp only [go_sem]
    refine opt_i (row_m hv12002) ?_
    try simp only [go_sem]
    replace h := bindE h
    obtain ⟨v12006, hv12006, h⟩ := h
    replace h := bindE h
    obtain ⟨v12006_48, hv12006_48, h⟩ := h
    refine call_g ⟨[(3000192096, .sub 1 0 [(5, Int.toNat p0_2, 4)], none)], [(1, 3000192096)], [], [], [], true⟩ (by kernel_rfl) (l_markPortS_ok _ _ none _ hv12006) (by kernel_rfl) ?_
    try simp only [go_sem]
    refine opt_i (getP_1 (r := List.map Port.ds v12002.ports) (row_m hv12002) (Agent.ds_len _) (by simp only [go_sem, Agent.ds_eq])) ?_
    try simp only [go_sem]
    refine row_i ((List.map Agent.ds v11006_47).set (Int.toNat p0_2) [.int .i64 v12002.kind, .int .i64 v12002.level, .int .i64 v12002.value, .sl (List.map i64D v12002.data), .gone]) ((putR_1 (row_m hv12002) (d' := .sl (List.map Port.ds v12002.ports)) (by simp only [go_sem, Agent.ds_eq])).trans (by simp only [go_sem, Agent.ds_eq])) ?_
    try simp only [go_sem]
    refine and_i (getC_1 (set_at (row_m hv12002)) rfl rfl) ?_
    try simp only [go_sem]
    refine row_i (List.map Agent.ds v12006_48) (((putR_1 (set_at (row_m hv12002)) (d' := .gone) rfl).trans (List.set_set ..)).trans (by rw [← set1_some hv12006_48]; simp only [List.map_set, go_sem, Agent.ds_eq])) ?_
    try simp only [go_sem]
    refine seq_go ?_
    try simp only [go_sem]
    have hj := posG_to rfl rfl (ih0 v12006_48 v12006.1 (IntKind.i64.wrap (p0_2 + 1)) z1 _ h)
    refine lp_to hj (.one ⟨_, .done _, [(1, 1)], [], ?_⟩)
    clear hj
    try simp only [go_sem]
   ·replace h := ifF (c := (decide (p0_2 < ((List.length p0_0 : Nat) : Int)))) hb1 h
    try simp only [go_sem]
    refine seq_go ?_
    try simp only [go_sem]
    cases h
    refine ret_i (.done _) [(1, 1)] [] ?_
    simp only [go_sem]
theorem l_markAgentS_ok (a0 : List Agent) (a1 : Int) (z1 : Option Nat) (r : Int × (List Agent)) (h : l_markAgentS a0 a1 = some r) : AG Tryz.prog 71 [.own 1, .int .i64 a1] [(1, ⟨List.map Agent.ds a0, z1, 0, false⟩)] [] (.int .i64 r.1) [(1, ⟨List.map Agent.ds r.2, z1, 0, false⟩)] [] := by
 unfold l_markAgentS at h
 refine ag_fn mixed Tryz.func71 rfl rfl rfl (by kernel_rfl) (by kernel_rfl) ?_
 try simp only [go_sem]
 have hj := posG_to rfl rfl (l_markAgentS_l1_ok fuel a0 a1 0 z1 _ h)
 refine loop_to hj (.one ⟨_, .done _, [(1, 1)], [], ?_⟩)
 clear hj
 try simp only [go_sem]
theorem l_markNet_ok (a0 : Net) (a1 : Int) (z1 : Option Nat) (r : Int × (List Agent)) (h : l_markNet a0 a1 = some r) : AG Tryz.prog 27 [.agg [.own 1], .int .i64 a1] [(1, ⟨List.map Agent.ds a0.agents, z1, 0, false⟩)] [] (.int .i64 r.1) [(1, ⟨List.map Agent.ds r.2, z1, 0, false⟩)] [] := by
 unfold l_markNet at h
 refine ag_fn mixed Tryz.func27 rfl rfl rfl (by kernel_rfl) (by kernel_rfl) ?_
 try simp only [go_sem]
 replace h := bindE h
 obtain ⟨v2003, hv2003, h⟩ := h
 refine call_g ⟨[], [(1, 1)], [], [], [], true⟩ (by kernel_rfl) (l_markAgentS_ok _ _ z1 _ hv2003) (by kernel_rfl) ?_
 try simp only [go_sem]
 refine seq_go ?_
 try simp only [go_sem]
 cases h
 refine ret_i (.done _) [(1, 1)] [] ?_
 simp only [go_sem]
theorem l_heldPortS_l1_ok (n : Nat) : (∀ (a0 : List Port) (p0_0 : Int) (p0_1 : Int) (r : Int), l_heldPortS_l1 n a0 p0_0 p0_1 = some r → posF Tryz.prog Tryz.f149 [1, 0, 1, 0] (.int .i64 r) ⟨[(0, .ro (List.map Port.ds a0)), (1, .int .i64 p0_0), (5, .int .i64 p0_1)], [], []⟩) := by
 induction n with
 | zero => exact ((fun _ _ _ _ h => by rw [l_heldPortS_l1] at h; cases h))
 | succ n ih =>
  have ih0 := ih
  ·intro a0 p0_0 p0_1 r h
   rw [l_heldPortS_l1] at h
   refine posF_of rfl rfl ?_
   try simp only [go_sem]
   refine loop_i ?_
   try simp only [go_sem]
   refine cond_i (fun hb1 => ?_) (fun hb1 => ?_)
   ·replace h := ifT (c := (decide (p0_1 < ((List.length a0 : Nat) : Int)))) hb1 h
    try simp only [go_sem]
    refine seq_go ?_
    try simp only [go_sem]
    replace h := bindE h
    obtain ⟨v5002, hv5002, h⟩ := h
    refine idx_m hv5002 (Port.ds_len _) ?_
    try simp only [go_sem]
    refine cond_i (fun hb2 => ?_) (fun hb2 => ?_)
    ·replace h := ifT (c := (!decide (v5002.agent = p0_0))) hb2 h
     try simp only [go_sem]
     cases h
     simp only [go_sem]
    ·replace h := ifF (c := (!decide (v5002.agent = p0_0))) hb2 h
     try simp only [go_sem]
     refine seq_go ?_
     try simp only [go_sem]
     replace h := bindE h
     obtain ⟨v8002, hv8002, h⟩ := h
     refine idx_m hv8002 (Port.ds_len _) ?_
     try simp only [go_sem]
     refine cond_i (fun hb3 => ?_) (fun hb3 => ?_)
     ·replace h := ifT (c := (!decide (v8002.slot = (IntKind.i64.wrap (p0_0 + 1))))) hb3 h
      try simp only [go_sem]
      cases h
      simp only [go_sem]
     ·replace h := ifF (c := (!decide (v8002.slot = (IntKind.i64.wrap (p0_0 + 1))))) hb3 h
      try simp only [go_sem]
      refine seq_go ?_
      try simp only [go_sem]
      refine seq_go ?_
      try simp only [go_sem]
      have hj := posF_to rfl rfl (ih0 a0 (IntKind.i64.wrap ((IntKind.i64.wrap (p0_0 + 1)) + 1)) (IntKind.i64.wrap (p0_1 + 1)) _ h)
      refine lp_to hj (.one ⟨_, .done _, [], [], ?_⟩)
      clear hj
      try simp only [go_sem]
   ·replace h := ifF (c := (decide (p0_1 < ((List.length a0 : Nat) : Int)))) hb1 h
    try simp only [go_sem]
    refine seq_go ?_
    try simp only [go_sem]
    cases h
    simp only [go_sem]
theorem l_heldPortS_ok (a0 : List Port) (a1 : Int) (r : Int) (h : l_heldPortS a0 a1 = some r) : AC Tryz.prog 149 [.ro (List.map Port.ds a0), .int .i64 a1] (.int .i64 r) := by
 unfold l_heldPortS at h
 refine ac_fn mixed Tryz.func149 rfl rfl rfl (by kernel_rfl) (by kernel_rfl) ?_
 try simp only [go_sem]
 have hj := posF_to rfl rfl (l_heldPortS_l1_ok fuel a0 a1 0 _ h)
 refine loop_to hj (.one ⟨_, .done _, [], [], ?_⟩)
 clear hj
 try simp only [go_sem]
theorem l_heldAgentS_l1_ok (n : Nat) : (∀ (a0 : List Agent) (p0_0 : Int) (p0_1 : Int) (r : Int), l_heldAgentS_l1 n a0 p0_0 p0_1 = some r → posF Tryz.prog Tryz.f83 [1, 0, 1, 0] (.int .i64 r) ⟨[(0, .ro (List.map Agent.ds a0)), (1, .int .i64 p0_0), (5, .int .i64 p0_1)], [], []⟩) := by
 induction n with
 | zero => exact ((fun _ _ _ _ h => by rw [l_heldAgentS_l1] at h; cases h))
 | succ n ih =>
  have ih0 := ih
  ·intro a0 p0_0 p0_1 r h
   rw [l_heldAgentS_l1] at h
   refine posF_of rfl rfl ?_
   try simp only [go_sem]
   refine loop_i ?_
   try simp only [go_sem]
   refine cond_i (fun hb1 => ?_) (fun hb1 => ?_)
   ·replace h := ifT (c := (decide (p0_1 < ((List.length a0 : Nat) : Int)))) hb1 h
    try simp only [go_sem]
    refine seq_go ?_
    try simp only [go_sem]
    replace h := bindE h
    obtain ⟨v5002, hv5002, h⟩ := h
    refine idx_m hv5002 (Agent.ds_len _) ?_
    try simp only [go_sem]
    refine cond_i (fun hb2 => ?_) (fun hb2 => ?_)
    ·replace h := ifT (c := (!decide (v5002.kind = p0_0))) hb2 h
     try simp only [go_sem]
     cases h
     simp only [go_sem]
    ·replace h := ifF (c := (!decide (v5002.kind = p0_0))) hb2 h
     try simp only [go_sem]
     refine seq_go ?_
     try simp only [go_sem]
     replace h := bindE h
     obtain ⟨v8002, hv8002, h⟩ := h
     refine idx_m hv8002 (Agent.ds_len _) ?_
     try simp only [go_sem]
     refine cond_i (fun hb3 => ?_) (fun hb3 => ?_)
     ·replace h := ifT (c := (!decide (v8002.level = (IntKind.i64.wrap (p0_0 + 1))))) hb3 h
      try simp only [go_sem]
      cases h
      simp only [go_sem]
     ·replace h := ifF (c := (!decide (v8002.level = (IntKind.i64.wrap (p0_0 + 1))))) hb3 h
      try simp only [go_sem]
      refine seq_go ?_
      try simp only [go_sem]
      replace h := bindE h
      obtain ⟨v11002, hv11002, h⟩ := h
      refine idx_m hv11002 (Agent.ds_len _) ?_
      try simp only [go_sem]
      refine cond_i (fun hb4 => ?_) (fun hb4 => ?_)
      ·replace h := ifT (c := (!decide (v11002.value = (IntKind.i64.wrap ((IntKind.i64.wrap (p0_0 + 1)) + 1))))) hb4 h
       try simp only [go_sem]
       cases h
       simp only [go_sem]
      ·replace h := ifF (c := (!decide (v11002.value = (IntKind.i64.wrap ((IntKind.i64.wrap (p0_0 + 1)) + 1))))) hb4 h
       try simp only [go_sem]
       refine seq_go ?_
       try simp only [go_sem]
       replace h := bindE h
       obtain ⟨v14002, hv14002, h⟩ := h
       refine idx_m hv14002 (Agent.ds_len _) ?_
       try simp only [go_sem]
       replace h := bindE h
       obtain ⟨v14006, hv14006, h⟩ := h
       refine call_i (l_heldInt64S_ok _ _ _ hv14006) ?_
       try simp only [go_sem]
       refine seq_go ?_
       try simp only [go_sem]
       refine cond_i (fun hb5 => ?_) (fun hb5 => ?_)
       ·replace h := ifT (c := (decide (v14006 < 0))) hb5 h
        try simp only [go_sem]
        cases h
        simp only [go_sem]
       ·replace h := ifF (c := (decide (v14006 < 0))) hb5 h
        try simp only [go_sem]
        refine seq_go ?_
        try simp only [go_sem]
        replace h := bindE h
        obtain ⟨v17002, hv17002, h⟩ := h
        refine idx_m hv17002 (Agent.ds_len _) ?_
        try simp only [go_sem]
        replace h := bindE h
        obtain ⟨v17006, hv17006, h⟩ := h
        refine call_i (l_heldPortS_ok _ _ _ hv17006) ?_
        try simp only [go_sem]
        refine seq_go ?_
        try simp only [go_sem]
        refine cond_i (fun hb6 => ?_) (fun hb6 => ?_)
        ·replace h := ifT (c := (decide (v17006 < 0))) hb6 h
         try simp only [go_sem]
         cases h
         simp only [go_sem]
        ·replace h := ifF (c := (decide (v17006 < 0))) hb6 h
         try simp only [go_sem]
         refine seq_go ?_
         try simp only [go_sem]
         have hj := posF_to rfl rfl (ih0 a0 v17006 (IntKind.i64.wrap (p0_1 + 1)) _ h)
         refine lp_to hj (.one ⟨_, .done _, [], [], ?_⟩)
         clear hj
         try simp only [go_sem]
   ·replace h := ifF (c := (decide (p0_1 < ((List.length a0 : Nat) : Int)))) hb1 h
    try simp only [go_sem]
    refine seq_go ?_
    try simp only [go_sem]
    cases h
    simp only [go_sem]
theorem l_heldAgentS_ok (a0 : List Agent) (a1 : Int) (r : Int) (h : l_heldAgentS a0 a1 = some r) : AC Tryz.prog 83 [.ro (List.map Agent.ds a0), .int .i64 a1] (.int .i64 r) := by
 unfold l_heldAgentS at h
 refine ac_fn mixed Tryz.func83 rfl rfl rfl (by kernel_rfl) (by kernel_rfl) ?_
 try simp only [go_sem]
 have hj := posF_to rfl rfl (l_heldAgentS_l1_ok fuel a0 a1 0 _ h)
 refine loop_to hj (.one ⟨_, .done _, [], [], ?_⟩)
 clear hj
 try simp only [go_sem]
theorem l_heldNet_ok (a0 : Net) (a1 : Int) (r : Int) (h : l_heldNet a0 a1 = some r) : AC Tryz.prog 32 [.agg (Net.avs a0), .int .i64 a1] (.int .i64 r) := by
 unfold l_heldNet at h
 refine ac_fn mixed Tryz.func32 rfl rfl rfl (by kernel_rfl) (by kernel_rfl) ?_
 try simp only [go_sem]
 replace h := bindE h
 obtain ⟨v2003, hv2003, h⟩ := h
 refine call_i (l_heldAgentS_ok _ _ _ hv2003) ?_
 try simp only [go_sem]
 refine seq_go ?_
 try simp only [go_sem]
 refine cond_i (fun hb1 => ?_) (fun hb1 => ?_)
 ·replace h := ifT (c := (decide (v2003 < 0))) hb1 h
  try simp only [go_sem]
  cases h
  simp only [go_sem]
 ·replace h := ifF (c := (decide (v2003 < 0))) hb1 h
  try simp only [go_sem]
  refine seq_go ?_
  try simp only [go_sem]
  cases h
  simp only [go_sem]
theorem l_markNetS_l1_ok (n : Nat) : (∀ (p0_0 : List Net) (p0_1 : Int) (p0_2 : Int) (z1 : Option Nat) (r : Int × (List Net)), l_markNetS_l1 n p0_0 p0_1 p0_2 = some r → posG Tryz.prog Tryz.f26 [1, 0, 1, 0] (.int .i64 r.1) [(1, ⟨List.map Net.ds r.2, z1, 0, false⟩)] [] ⟨[(0, .own 1), (1, .int .i64 p0_1), (5, .int .i64 p0_2)], [(1, some ⟨List.map Net.ds p0_0, z1, 0, false⟩)], []⟩) := by
 induction n with
 | zero => exact ((fun _ _ _ _ _ h => by rw [l_markNetS_l1] at h; cases h))
 | succ n ih =>
  have ih0 := ih
  ·intro p0_0 p0_1 p0_2 z1 r h
   rw [l_markNetS_l1] at h
   refine posG_of rfl rfl ?_
   try simp only [go_sem]
   refine loop_i ?_
   try simp only [go_sem]
   refine cond_i (fun hb1 => ?_) (fun hb1 => ?_)
   ·replace h := ifT (c := (decide (p0_2 < ((List.length p0_0 : Nat) : Int)))) hb1 h
    try simp only [go_sem]
    refine seq_go ?_
    try simp only [go_sem]
    replace h := bindE h
    obtain ⟨v5002, hv5002, h⟩ := h
    refine idx_m hv5002 (Net.ds_len _) ?_
    try simp only [go_sem]
    refine opt_i (row_m hv5002) ?_
    try simp only [go_sem]
    replace h := bindE h
    obtain ⟨v5006, hv5006, h⟩ := h
    replace h := bindE h
    obtain ⟨v5006_8, hv5006_8, h⟩ := h
    refine call_g ⟨[(3000080096, .sub 1 0 [(1, Int.toNat p0_2, 0)], none)], [(1, 3000080096)], [], [], [], true⟩ (by kernel_rfl) (l_markAgentS_ok _ _ none _ hv5006) (by kernel_rfl) ?_
    try simp only [go_sem]
    refine opt_i (getP_1 (r := List.map Agent.ds v5002.agents) (row_m hv5002) (Net.ds_len _) (by simp only [go_sem, Net.ds_eq])) ?_
    try simp only [go_sem]
    refine row_i ((List.map Net.ds p0_0).set (Int.toNat p0_2) [.gone]) ((putR_1 (row_m hv5002) (d' := .sl (List.map Agent.ds v5002.agents)) (by simp only [go_sem, Net.ds_eq])).trans (by simp only [go_sem, Net.ds_eq])) ?_
    try simp only [go_sem]
    refine and_i (getC_1 (set_at (row_m hv5002)) rfl rfl) ?_
    try simp only [go_sem]
    refine row_i (List.map Net.ds v5006_8) (((putR_1 (set_at (row_m hv5002)) (d' := .gone) rfl).trans (List.set_set ..)).trans (by rw [← set1_some hv5006_8]; simp only [List.map_set, go_sem, Net.ds_eq])) ?_
    try simp only [go_sem]
    refine seq_go ?_
    try simp only [go_sem]
    have hj := posG_to rfl rfl (ih0 v5006_8 v5006.1 (IntKind.i64.wrap (p0_2 + 1)) z1 _ h)
    refine lp_to hj (.one ⟨_, .done _, [(1, 1)], [], ?_⟩)
    clear hj
    try simp only [go_sem]
   ·replace h := ifF (c := (decide (p0_2 < ((List.length p0_0 : Nat) : Int)))) hb1 h
    try simp only [go_sem]
    refine seq_go ?_
    try simp only [go_sem]
    cases h
    refine ret_i (.done _) [(1, 1)] [] ?_
    simp only [go_sem]
theorem l_markNetS_ok (a0 : List Net) (a1 : Int) (z1 : Option Nat) (r : Int × (List Net)) (h : l_markNetS a0 a1 = some r) : AG Tryz.prog 26 [.own 1, .int .i64 a1] [(1, ⟨List.map Net.ds a0, z1, 0, false⟩)] [] (.int .i64 r.1) [(1, ⟨List.map Net.ds r.2, z1, 0, false⟩)] [] := by
 unfold l_markNetS at h
 refine ag_fn mixed Tryz.func26 rfl rfl rfl (by kernel_rfl) (by kernel_rfl) ?_
 try simp only [go_sem]
 have hj := posG_to rfl rfl (l_markNetS_l1_ok fuel a0 a1 0 z1 _ h)
 refine loop_to hj (.one ⟨_, .done _, [(1, 1)], [], ?_⟩)
 clear hj
 try simp only [go_sem]
theorem l_heldNetS_l1_ok (n : Nat) : (∀ (a0 : List Net) (p0_0 : Int) (p0_1 : Int) (r : Int), l_heldNetS_l1 n a0 p0_0 p0_1 = some r → posF Tryz.prog Tryz.f121 [1, 0, 1, 0] (.int .i64 r) ⟨[(0, .ro (List.map Net.ds a0)), (1, .int .i64 p0_0), (5, .int .i64 p0_1)], [], []⟩) := by
 induction n with
 | zero => exact ((fun _ _ _ _ h => by rw [l_heldNetS_l1] at h; cases h))
 | succ n ih =>
  have ih0 := ih
  ·intro a0 p0_0 p0_1 r h
   rw [l_heldNetS_l1] at h
   refine posF_of rfl rfl ?_
   try simp only [go_sem]
   refine loop_i ?_
   try simp only [go_sem]
   refine cond_i (fun hb1 => ?_) (fun hb1 => ?_)
   ·replace h := ifT (c := (decide (p0_1 < ((List.length a0 : Nat) : Int)))) hb1 h
    try simp only [go_sem]
    refine seq_go ?_
    try simp only [go_sem]
    replace h := bindE h
    obtain ⟨v5002, hv5002, h⟩ := h
    refine idx_m hv5002 (Net.ds_len _) ?_
    try simp only [go_sem]
    replace h := bindE h
    obtain ⟨v5006, hv5006, h⟩ := h
    refine call_i (l_heldAgentS_ok _ _ _ hv5006) ?_
    try simp only [go_sem]
    refine seq_go ?_
    try simp only [go_sem]
    refine cond_i (fun hb2 => ?_) (fun hb2 => ?_)
    ·replace h := ifT (c := (decide (v5006 < 0))) hb2 h
     try simp only [go_sem]
     cases h
     simp only [go_sem]
    ·replace h := ifF (c := (decide (v5006 < 0))) hb2 h
     try simp only [go_sem]
     refine seq_go ?_
     try simp only [go_sem]
     have hj := posF_to rfl rfl (ih0 a0 v5006 (IntKind.i64.wrap (p0_1 + 1)) _ h)
     refine lp_to hj (.one ⟨_, .done _, [], [], ?_⟩)
     clear hj
     try simp only [go_sem]
   ·replace h := ifF (c := (decide (p0_1 < ((List.length a0 : Nat) : Int)))) hb1 h
    try simp only [go_sem]
    refine seq_go ?_
    try simp only [go_sem]
    cases h
    simp only [go_sem]
theorem l_heldNetS_ok (a0 : List Net) (a1 : Int) (r : Int) (h : l_heldNetS a0 a1 = some r) : AC Tryz.prog 121 [.ro (List.map Net.ds a0), .int .i64 a1] (.int .i64 r) := by
 unfold l_heldNetS at h
 refine ac_fn mixed Tryz.func121 rfl rfl rfl (by kernel_rfl) (by kernel_rfl) ?_
 try simp only [go_sem]
 have hj := posF_to rfl rfl (l_heldNetS_l1_ok fuel a0 a1 0 _ h)
 refine loop_to hj (.one ⟨_, .done _, [], [], ?_⟩)
 clear hj
 try simp only [go_sem]
theorem g_IndexFunc_sint64_l1_ok (n : Nat) : (∀ (a0 : List Int) (p0_0 : Int) (f1 : (Int → Option Bool)) (g1 : FuncId) (c1 : List AV) (s1 : Still c1) (h1 : ∀ (y0 : Int) (q : Bool), f1 y0 = some q → AC Tryz.prog g1 (.int .i64 y0 :: c1) (.bool q)) (r : Int), g_IndexFunc_sint64_l1 n a0 p0_0 f1 = some r → posF Tryz.prog Tryz.f219 [1, 0, 1, 0] (.int .i64 r) ⟨[(0, .ro (List.map i64D a0)), (1, .fn g1 c1), (7, .int .i64 ((List.length a0 : Nat) : Int)), (8, .int .i64 p0_0)], [], []⟩) := by
 induction n with
 | zero => exact ((fun _ _ _ _ _ _ _ _ h => by rw [g_IndexFunc_sint64_l1] at h; cases h))
 | succ n ih =>
  have ih0 := ih
  ·intro a0 p0_0 f1 g1 c1 s1 h1 r h
   rw [g_IndexFunc_sint64_l1] at h
   refine posF_of rfl rfl ?_
   try simp only [go_sem, s1.k, s1.r, s1.c, s1.p]
   refine loop_i ?_
   try simp only [go_sem, s1.k, s1.r, s1.c, s1.p]
   refine cond_i (fun hb1 => ?_) (fun hb1 => ?_)
   ·replace h := ifT (c := (decide (p0_0 < ((List.length a0 : Nat) : Int)))) hb1 h
    try simp only [go_sem, s1.k, s1.r, s1.c, s1.p]
    refine seq_go ?_
    try simp only [go_sem, s1.k, s1.r, s1.c, s1.p]
    replace h := bindE h
    obtain ⟨v5003, hv5003, h⟩ := h
    refine idx_m hv5003 rfl ?_
    try simp only [go_sem, s1.k, s1.r, s1.c, s1.p]
    replace h := bindE h
    obtain ⟨v5005, hv5005, h⟩ := h
    refine call_i (h1 _ _ hv5005) ?_
    try simp only [go_sem, s1.k, s1.r, s1.c, s1.p]
    refine seq_go ?_
    try simp only [go_sem, s1.k, s1.r, s1.c, s1.p]
    refine cond_i (fun hb2 => ?_) (fun hb2 => ?_)
    ·replace h := ifT (c := v5005) hb2 h
     try simp only [go_sem, s1.k, s1.r, s1.c, s1.p]
     cases h
     simp only [go_sem, s1.k, s1.r, s1.c, s1.p]
    ·replace h := ifF (c := v5005) hb2 h
     try simp only [go_sem, s1.k, s1.r, s1.c, s1.p]
     refine seq_go ?_
     try simp only [go_sem, s1.k, s1.r, s1.c, s1.p]
     have hj := posF_to rfl rfl (ih0 a0 (IntKind.i64.wrap (p0_0 + 1)) f1 g1 c1 s1 h1 _ h)
     refine lp_to hj (.one ⟨_, .done _, [], [], ?_⟩)
     clear hj
     try simp only [go_sem, s1.k, s1.r, s1.c, s1.p]
   ·replace h := ifF (c := (decide (p0_0 < ((List.length a0 : Nat) : Int)))) hb1 h
    try simp only [go_sem, s1.k, s1.r, s1.c, s1.p]
    refine seq_go ?_
    try simp only [go_sem, s1.k, s1.r, s1.c, s1.p]
    cases h
    simp only [go_sem, s1.k, s1.r, s1.c, s1.p]
theorem g_IndexFunc_sint64_ok (a0 : List Int) (f1 : (Int → Option Bool)) (g1 : FuncId) (c1 : List AV) (s1 : Still c1) (h1 : ∀ (y0 : Int) (q : Bool), f1 y0 = some q → AC Tryz.prog g1 (.int .i64 y0 :: c1) (.bool q)) (r : Int) (h : g_IndexFunc_sint64 a0 f1 = some r) : AC Tryz.prog 219 [.ro (List.map i64D a0), .fn g1 c1] (.int .i64 r) := by
 unfold g_IndexFunc_sint64 at h
 refine ac_fn mixed Tryz.func219 rfl rfl rfl (by kernel_rfl) (by kernel_rfl) ?_
 try simp only [go_sem, s1.k, s1.r, s1.c, s1.p]
 have hj := posF_to rfl rfl (g_IndexFunc_sint64_l1_ok fuel a0 0 f1 g1 c1 s1 h1 _ h)
 refine loop_to hj (.one ⟨_, .done _, [], [], ?_⟩)
 clear hj
 try simp only [go_sem, s1.k, s1.r, s1.c, s1.p]
theorem g_ContainsFunc_sint64_ok (a0 : List Int) (f1 : (Int → Option Bool)) (g1 : FuncId) (c1 : List AV) (s1 : Still c1) (h1 : ∀ (y0 : Int) (q : Bool), f1 y0 = some q → AC Tryz.prog g1 (.int .i64 y0 :: c1) (.bool q)) (r : Bool) (h : g_ContainsFunc_sint64 a0 f1 = some r) : AC Tryz.prog 181 [.ro (List.map i64D a0), .fn g1 c1] (.bool r) := by
 unfold g_ContainsFunc_sint64 at h
 refine ac_fn mixed Tryz.func181 rfl rfl rfl (by kernel_rfl) (by kernel_rfl) ?_
 try simp only [go_sem, s1.k, s1.r, s1.c, s1.p]
 replace h := bindE h
 obtain ⟨v2002, hv2002, h⟩ := h
 refine call_i (g_IndexFunc_sint64_ok _ _ g1 c1 s1 h1 _ hv2002) ?_
 try simp only [go_sem, s1.k, s1.r, s1.c, s1.p]
 refine seq_go ?_
 try simp only [go_sem, s1.k, s1.r, s1.c, s1.p]
 cases h
 simp only [go_sem, s1.k, s1.r, s1.c, s1.p]
theorem i_atMost_1_ok (a0 : Int) (a1 : Int) (r : Bool) (h : i_atMost_1 a0 a1 = some r) : AC Tryz.prog 182 [.int .i64 a0, .rop [.int .i64 a1] 0] (.bool r) := by
 unfold i_atMost_1 at h
 refine ac_fn mixed Tryz.func182 rfl rfl rfl (by kernel_rfl) (by kernel_rfl) ?_
 try simp only [go_sem]
 refine cond_i (fun hb1 => ?_) (fun hb1 => ?_)
 ·replace h := ifT (c := (decide (a0 < 0))) hb1 h
  try simp only [go_sem]
  refine seq_go ?_
  try simp only [go_sem]
  cases h
  simp only [go_sem]
 ·replace h := ifF (c := (decide (a0 < 0))) hb1 h
  try simp only [go_sem]
  refine seq_go ?_
  try simp only [go_sem]
  cases h
  simp only [go_sem]
theorem i_atMost_ok (a0 : Int) (a1 : List Int) (r : Bool) (h : i_atMost a0 a1 = some r) : AC Tryz.prog 111 [.int .i64 a0, .ro (List.map i64D a1)] (.bool r) := by
 unfold i_atMost at h
 refine ac_fn mixed Tryz.func111 rfl rfl rfl (by kernel_rfl) (by kernel_rfl) ?_
 try simp only [go_sem]
 replace h := bindE h
 obtain ⟨v2002, hv2002, h⟩ := h
 refine call_i (g_ContainsFunc_sint64_ok _ _ 182 [.rop [.int .i64 a0] 0] (Still.of (by simp only [pureAs, pureA, Bool.and_true, Bool.true_and, Bool.and_self])) (fun y0 q hq => i_atMost_1_ok y0 _ q hq) _ hv2002) ?_
 try simp only [go_sem]
 refine seq_go ?_
 try simp only [go_sem]
 cases h
 simp only [go_sem]
theorem i_ValidCounts_1_ok (a0 : Int) (r : Bool) (h : i_ValidCounts_1 a0 = some r) : AC Tryz.prog 204 [.int .i64 a0] (.bool r) := by
 unfold i_ValidCounts_1 at h
 refine ac_fn mixed Tryz.func204 rfl rfl rfl (by kernel_rfl) (by kernel_rfl) ?_
 try simp only [go_sem]
 refine cond_i (fun hb1 => ?_) (fun hb1 => ?_)
 ·replace h := ifT (c := (decide (a0 < 0))) hb1 h
  try simp only [go_sem]
  refine seq_go ?_
  try simp only [go_sem]
  cases h
  simp only [go_sem]
 ·replace h := ifF (c := (decide (a0 < 0))) hb1 h
  try simp only [go_sem]
  refine seq_go ?_
  try simp only [go_sem]
  cases h
  simp only [go_sem]
theorem i_ValidCounts_ok (a0 : List Int) (r : Bool) (h : i_ValidCounts a0 = some r) : AC Tryz.prog 161 [.ro (List.map i64D a0)] (.bool r) := by
 unfold i_ValidCounts at h
 refine ac_fn mixed Tryz.func161 rfl rfl rfl (by kernel_rfl) (by kernel_rfl) ?_
 try simp only [go_sem]
 refine cond_i (fun hb1 => ?_) (fun hb1 => ?_)
 ·replace h := ifT (c := (decide (((List.length a0 : Nat) : Int) = 7))) hb1 h
  try simp only [go_sem]
  replace h := bindE h
  obtain ⟨v2005, hv2005, h⟩ := h
  refine call_i (g_ContainsFunc_sint64_ok _ _ 204 [] (Still.of rfl) (fun y0 q hq => i_ValidCounts_1_ok y0  q hq) _ hv2005) ?_
  try simp only [go_sem]
  refine seq_go ?_
  try simp only [go_sem]
  cases h
  simp only [go_sem]
 ·replace h := ifF (c := (decide (((List.length a0 : Nat) : Int) = 7))) hb1 h
  try simp only [go_sem]
  refine seq_go ?_
  try simp only [go_sem]
  cases h
  simp only [go_sem]
theorem i_TotalCounts_l1_ok (n : Nat) : (∀ (a0 : List Int) (p0_0 : Int) (p0_1 : Int) (r : Int), i_TotalCounts_l1 n a0 p0_0 p0_1 = some r → posF Tryz.prog Tryz.f93 [1, 1, 1, 0, 1, 0] (.int .i64 r) ⟨[(3, .int .i64 p0_0), (9, .ro (List.map i64D a0)), (10, .int .i64 ((List.length a0 : Nat) : Int)), (11, .int .i64 p0_1)], [], []⟩) := by
 induction n with
 | zero => exact ((fun _ _ _ _ h => by rw [i_TotalCounts_l1] at h; cases h))
 | succ n ih =>
  have ih0 := ih
  ·intro a0 p0_0 p0_1 r h
   rw [i_TotalCounts_l1] at h
   refine posF_of rfl rfl ?_
   try simp only [go_sem]
   refine loop_i ?_
   try simp only [go_sem]
   refine cond_i (fun hb2 => ?_) (fun hb2 => ?_)
   ·replace h := ifT (c := (decide (p0_1 < ((List.length a0 : Nat) : Int)))) hb2 h
    try simp only [go_sem]
    refine seq_go ?_
    try simp only [go_sem]
    replace h := bindE h
    obtain ⟨v7000, hv7000, h⟩ := h
    refine idx_m hv7000 rfl ?_
    try simp only [go_sem]
    refine seq_go ?_
    try simp only [go_sem]
    have hj := posF_to rfl rfl (ih0 a0 (IntKind.i64.wrap (p0_0 + v7000)) (IntKind.i64.wrap (p0_1 + 1)) _ h)
    refine lp_to hj (.one ⟨_, .done _, [], [], ?_⟩)
    clear hj
    try simp only [go_sem]
   ·replace h := ifF (c := (decide (p0_1 < ((List.length a0 : Nat) : Int)))) hb2 h
    try simp only [go_sem]
    refine seq_go ?_
    try simp only [go_sem]
    cases h
    simp only [go_sem]
theorem i_TotalCounts_ok (a0 : List Int) (r : Int) (h : i_TotalCounts a0 = some r) : AC Tryz.prog 93 [.ro (List.map i64D a0)] (.int .i64 r) := by
 unfold i_TotalCounts at h
 refine ac_fn mixed Tryz.func93 rfl rfl rfl (by kernel_rfl) (by kernel_rfl) ?_
 try simp only [go_sem]
 replace h := bindE h
 obtain ⟨v2001, hv2001, h⟩ := h
 refine call_i (i_ValidCounts_ok _ _ hv2001) ?_
 try simp only [go_sem]
 refine seq_go ?_
 try simp only [go_sem]
 refine cond_i (fun hb1 => ?_) (fun hb1 => ?_)
 ·replace h := ifT (c := (!v2001)) hb1 h
  try simp only [go_sem]
  cases h
  simp only [go_sem]
 ·replace h := ifF (c := (!v2001)) hb1 h
  try simp only [go_sem]
  refine seq_go ?_
  try simp only [go_sem]
  have hj := posF_to rfl rfl (i_TotalCounts_l1_ok fuel a0 0 0 _ h)
  refine loop_to hj (.one ⟨_, .done _, [], [], ?_⟩)
  clear hj
  try simp only [go_sem]
theorem i_truth_ok (a0 : Bool) (r : Int) (h : i_truth a0 = some r) : AC Tryz.prog 183 [.bool a0] (.int .i64 r) := by
 unfold i_truth at h
 refine ac_fn mixed Tryz.func183 rfl rfl rfl (by kernel_rfl) (by kernel_rfl) ?_
 try simp only [go_sem]
 refine cond_i (fun hb1 => ?_) (fun hb1 => ?_)
 ·replace h := ifT (c := a0) hb1 h
  try simp only [go_sem]
  cases h
  simp only [go_sem]
 ·replace h := ifF (c := a0) hb1 h
  try simp only [go_sem]
  refine seq_go ?_
  try simp only [go_sem]
  cases h
  simp only [go_sem]
theorem g_IndexFunc_simpl_Net_l1_ok (n : Nat) : (∀ (a0 : List Net) (p0_0 : Int) (f1 : (Net → Option Bool)) (g1 : FuncId) (c1 : List AV) (s1 : Still c1) (h1 : ∀ (y0 : Net) (q : Bool), f1 y0 = some q → AC Tryz.prog g1 (.agg (Net.avs y0) :: c1) (.bool q)) (r : Int), g_IndexFunc_simpl_Net_l1 n a0 p0_0 f1 = some r → posF Tryz.prog Tryz.f196 [1, 0, 1, 0] (.int .i64 r) ⟨[(0, .ro (List.map Net.ds a0)), (1, .fn g1 c1), (7, .int .i64 ((List.length a0 : Nat) : Int)), (8, .int .i64 p0_0)], [], []⟩) := by
 induction n with
 | zero => exact ((fun _ _ _ _ _ _ _ _ h => by rw [g_IndexFunc_simpl_Net_l1] at h; cases h))
 | succ n ih =>
  have ih0 := ih
  ·intro a0 p0_0 f1 g1 c1 s1 h1 r h
   rw [g_IndexFunc_simpl_Net_l1] at h
   refine posF_of rfl rfl ?_
   try simp only [go_sem, s1.k, s1.r, s1.c, s1.p]
   refine loop_i ?_
   try simp only [go_sem, s1.k, s1.r, s1.c, s1.p]
   refine cond_i (fun hb1 => ?_) (fun hb1 => ?_)
   ·replace h := ifT (c := (decide (p0_0 < ((List.length a0 : Nat) : Int)))) hb1 h
    try simp only [go_sem, s1.k, s1.r, s1.c, s1.p]
    refine seq_go ?_
    try simp only [go_sem, s1.k, s1.r, s1.c, s1.p]
    replace h := bindE h
    obtain ⟨v5003, hv5003, h⟩ := h
    refine idx_m hv5003 (Net.ds_len _) ?_
    try simp only [go_sem, s1.k, s1.r, s1.c, s1.p]
    replace h := bindE h
    obtain ⟨v5005, hv5005, h⟩ := h
    refine call_i (h1 _ _ hv5005) ?_
    try simp only [go_sem, s1.k, s1.r, s1.c, s1.p]
    refine seq_go ?_
    try simp only [go_sem, s1.k, s1.r, s1.c, s1.p]
    refine cond_i (fun hb2 => ?_) (fun hb2 => ?_)
    ·replace h := ifT (c := v5005) hb2 h
     try simp only [go_sem, s1.k, s1.r, s1.c, s1.p]
     cases h
     simp only [go_sem, s1.k, s1.r, s1.c, s1.p]
    ·replace h := ifF (c := v5005) hb2 h
     try simp only [go_sem, s1.k, s1.r, s1.c, s1.p]
     refine seq_go ?_
     try simp only [go_sem, s1.k, s1.r, s1.c, s1.p]
     have hj := posF_to rfl rfl (ih0 a0 (IntKind.i64.wrap (p0_0 + 1)) f1 g1 c1 s1 h1 _ h)
     refine lp_to hj (.one ⟨_, .done _, [], [], ?_⟩)
     clear hj
     try simp only [go_sem, s1.k, s1.r, s1.c, s1.p]
   ·replace h := ifF (c := (decide (p0_0 < ((List.length a0 : Nat) : Int)))) hb1 h
    try simp only [go_sem, s1.k, s1.r, s1.c, s1.p]
    refine seq_go ?_
    try simp only [go_sem, s1.k, s1.r, s1.c, s1.p]
    cases h
    simp only [go_sem, s1.k, s1.r, s1.c, s1.p]
theorem g_IndexFunc_simpl_Net_ok (a0 : List Net) (f1 : (Net → Option Bool)) (g1 : FuncId) (c1 : List AV) (s1 : Still c1) (h1 : ∀ (y0 : Net) (q : Bool), f1 y0 = some q → AC Tryz.prog g1 (.agg (Net.avs y0) :: c1) (.bool q)) (r : Int) (h : g_IndexFunc_simpl_Net a0 f1 = some r) : AC Tryz.prog 196 [.ro (List.map Net.ds a0), .fn g1 c1] (.int .i64 r) := by
 unfold g_IndexFunc_simpl_Net at h
 refine ac_fn mixed Tryz.func196 rfl rfl rfl (by kernel_rfl) (by kernel_rfl) ?_
 try simp only [go_sem, s1.k, s1.r, s1.c, s1.p]
 have hj := posF_to rfl rfl (g_IndexFunc_simpl_Net_l1_ok fuel a0 0 f1 g1 c1 s1 h1 _ h)
 refine loop_to hj (.one ⟨_, .done _, [], [], ?_⟩)
 clear hj
 try simp only [go_sem, s1.k, s1.r, s1.c, s1.p]
theorem g_ContainsFunc_simpl_Net_ok (a0 : List Net) (f1 : (Net → Option Bool)) (g1 : FuncId) (c1 : List AV) (s1 : Still c1) (h1 : ∀ (y0 : Net) (q : Bool), f1 y0 = some q → AC Tryz.prog g1 (.agg (Net.avs y0) :: c1) (.bool q)) (r : Bool) (h : g_ContainsFunc_simpl_Net a0 f1 = some r) : AC Tryz.prog 136 [.ro (List.map Net.ds a0), .fn g1 c1] (.bool r) := by
 unfold g_ContainsFunc_simpl_Net at h
 refine ac_fn mixed Tryz.func136 rfl rfl rfl (by kernel_rfl) (by kernel_rfl) ?_
 try simp only [go_sem, s1.k, s1.r, s1.c, s1.p]
 replace h := bindE h
 obtain ⟨v2002, hv2002, h⟩ := h
 refine call_i (g_IndexFunc_simpl_Net_ok _ _ g1 c1 s1 h1 _ hv2002) ?_
 try simp only [go_sem, s1.k, s1.r, s1.c, s1.p]
 refine seq_go ?_
 try simp only [go_sem, s1.k, s1.r, s1.c, s1.p]
 cases h
 simp only [go_sem, s1.k, s1.r, s1.c, s1.p]
theorem i_isKind_ok (a0 : Int) (r : Bool) (h : i_isKind a0 = some r) : AC Tryz.prog 241 [.int .i64 a0] (.bool r) := by
 unfold i_isKind at h
 refine ac_fn mixed Tryz.func241 rfl rfl rfl (by kernel_rfl) (by kernel_rfl) ?_
 try simp only [go_sem]
 refine cond_i (fun hb1 => ?_) (fun hb1 => ?_)
 ·replace h := ifT (c := (decide (1 ≤ a0))) hb1 h
  try simp only [go_sem]
  refine seq_go ?_
  try simp only [go_sem]
  cases h
  simp only [go_sem]
 ·replace h := ifF (c := (decide (1 ≤ a0))) hb1 h
  try simp only [go_sem]
  refine seq_go ?_
  try simp only [go_sem]
  cases h
  simp only [go_sem]
theorem i_PortsOf_j2_ok (a0 : Int) (p1_0 : Bool) (r : Int) (h : i_PortsOf_j2 a0 p1_0 = some r) : posF Tryz.prog Tryz.f231 [1, 0, 0, 1, 1, 1] (.int .i64 r) ⟨[(0, .int .i64 a0), (18, .bool p1_0)], [], []⟩ := by
 unfold i_PortsOf_j2 at h
 refine posF_of rfl rfl ?_
 try simp only [go_sem]
 refine cond_i (fun hb6 => ?_) (fun hb6 => ?_)
 ·replace h := ifT (c := p1_0) hb6 h
  try simp only [go_sem]
  cases h
  simp only [go_sem]
 ·replace h := ifF (c := p1_0) hb6 h
  try simp only [go_sem]
  refine seq_go ?_
  try simp only [go_sem]
  replace h := bindE h
  obtain ⟨v6002, hv6002, h⟩ := h
  refine opt_i hv6002 ?_
  try simp only [go_sem]
  cases h
  simp only [go_sem]
theorem i_PortsOf_j1_ok (a0 : Int) (a1 : Int) (p0_0 : Bool) (r : Int) (h : i_PortsOf_j1 a0 a1 p0_0 = some r) : posF Tryz.prog Tryz.f231 [1, 0, 0, 1] (.int .i64 r) ⟨[(0, .int .i64 a0), (1, .int .i64 a1), (5, .bool p0_0)], [], []⟩ := by
 unfold i_PortsOf_j1 at h
 refine posF_of rfl rfl ?_
 try simp only [go_sem]
 refine cond_i (fun hb3 => ?_) (fun hb3 => ?_)
 ·replace h := ifT (c := p0_0) hb3 h
  try simp only [go_sem]
  cases h
  simp only [go_sem]
 ·replace h := ifF (c := p0_0) hb3 h
  try simp only [go_sem]
  replace h := bindE h
  obtain ⟨v4001, hv4001, h⟩ := h
  refine call_i (i_isKind_ok _ _ hv4001) ?_
  try simp only [go_sem]
  refine cond_i (fun hb4 => ?_) (fun hb4 => ?_)
  ·replace h := ifT (c := (!v4001)) hb4 h
   try simp only [go_sem]
   have hj := posF_to rfl rfl (i_PortsOf_j2_ok a0 true _ h)
   refine seq_to hj (.one ⟨_, .done _, [], [], ?_⟩)
   clear hj
   try simp only [go_sem]
  ·replace h := ifF (c := (!v4001)) hb4 h
   try simp only [go_sem]
   refine cond_i (fun hb5 => ?_) (fun hb5 => ?_)
   ·replace h := ifT (c := (decide (a0 = 9))) hb5 h
    try simp only [go_sem]
    have hj := posF_to rfl rfl (i_PortsOf_j2_ok a0 true _ h)
    refine seq_to hj (.one ⟨_, .done _, [], [], ?_⟩)
    clear hj
    try simp only [go_sem]
   ·replace h := ifF (c := (decide (a0 = 9))) hb5 h
    try simp only [go_sem]
    have hj := posF_to rfl rfl (i_PortsOf_j2_ok a0 (!decide (a1 = 0)) _ h)
    refine seq_to hj (.one ⟨_, .done _, [], [], ?_⟩)
    clear hj
    try simp only [go_sem]
theorem i_PortsOf_ok (a0 : Int) (a1 : Int) (r : Int) (h : i_PortsOf a0 a1 = some r) : AC Tryz.prog 231 [.int .i64 a0, .int .i64 a1] (.int .i64 r) := by
 unfold i_PortsOf at h
 refine ac_fn mixed Tryz.func231 rfl rfl rfl (by kernel_rfl) (by kernel_rfl) ?_
 try simp only [go_sem]
 refine cond_i (fun hb1 => ?_) (fun hb1 => ?_)
 ·replace h := ifT (c := (decide (a0 = 9))) hb1 h
  try simp only [go_sem]
  refine cond_i (fun hb2 => ?_) (fun hb2 => ?_)
  ·replace h := ifT (c := (decide (0 ≤ a1))) hb2 h
   try simp only [go_sem]
   have hj := posF_to rfl rfl (i_PortsOf_j1_ok a0 a1 (decide (a1 ≤ 3)) _ h)
   refine seq_to hj (.one ⟨_, .done _, [], [], ?_⟩)
   clear hj
   try simp only [go_sem]
  ·replace h := ifF (c := (decide (0 ≤ a1))) hb2 h
   try simp only [go_sem]
   have hj := posF_to rfl rfl (i_PortsOf_j1_ok a0 a1 false _ h)
   refine seq_to hj (.one ⟨_, .done _, [], [], ?_⟩)
   clear hj
   try simp only [go_sem]
 ·replace h := ifF (c := (decide (a0 = 9))) hb1 h
  try simp only [go_sem]
  have hj := posF_to rfl rfl (i_PortsOf_j1_ok a0 a1 false _ h)
  refine seq_to hj (.one ⟨_, .done _, [], [], ?_⟩)
  clear hj
  try simp only [go_sem]
theorem i_fieldsOf_ok (a0 : Int) (a1 : Int) (r : Int) (h : i_fieldsOf a0 a1 = some r) : AC Tryz.prog 232 [.int .i64 a0, .int .i64 a1] (.int .i64 r) := by
 unfold i_fieldsOf at h
 refine ac_fn mixed Tryz.func232 rfl rfl rfl (by kernel_rfl) (by kernel_rfl) ?_
 try simp only [go_sem]
 refine cond_i (fun hb1 => ?_) (fun hb1 => ?_)
 ·replace h := ifT (c := (decide (a0 = 9))) hb1 h
  try simp only [go_sem]
  cases h
  simp only [go_sem]
 ·replace h := ifF (c := (decide (a0 = 9))) hb1 h
  try simp only [go_sem]
  refine seq_go ?_
  try simp only [go_sem]
  cases h
  simp only [go_sem]
theorem i_HasLevel_ok (a0 : Int) (r : Bool) (h : i_HasLevel a0 = some r) : AC Tryz.prog 211 [.int .i64 a0] (.bool r) := by
 unfold i_HasLevel at h
 refine ac_fn mixed Tryz.func211 rfl rfl rfl (by kernel_rfl) (by kernel_rfl) ?_
 try simp only [go_sem]
 replace h := bindE h
 obtain ⟨v2001, hv2001, h⟩ := h
 refine call_i (i_isKind_ok _ _ hv2001) ?_
 try simp only [go_sem]
 refine cond_i (fun hb1 => ?_) (fun hb1 => ?_)
 ·replace h := ifT (c := v2001) hb1 h
  try simp only [go_sem]
  refine cond_i (fun hb2 => ?_) (fun hb2 => ?_)
  ·replace h := ifT (c := (!decide (a0 = 1))) hb2 h
   try simp only [go_sem]
   refine cond_i (fun hb3 => ?_) (fun hb3 => ?_)
   ·replace h := ifT (c := (!decide (a0 = 5))) hb3 h
    try simp only [go_sem]
    refine seq_go ?_
    try simp only [go_sem]
    cases h
    simp only [go_sem]
   ·replace h := ifF (c := (!decide (a0 = 5))) hb3 h
    try simp only [go_sem]
    refine seq_go ?_
    try simp only [go_sem]
    cases h
    simp only [go_sem]
  ·replace h := ifF (c := (!decide (a0 = 1))) hb2 h
   try simp only [go_sem]
   refine seq_go ?_
   try simp only [go_sem]
   cases h
   simp only [go_sem]
 ·replace h := ifF (c := v2001) hb1 h
  try simp only [go_sem]
  refine seq_go ?_
  try simp only [go_sem]
  cases h
  simp only [go_sem]
theorem i_isLevel_ok (a0 : Int) (r : Bool) (h : i_isLevel a0 = some r) : AC Tryz.prog 247 [.int .i64 a0] (.bool r) := by
 unfold i_isLevel at h
 refine ac_fn mixed Tryz.func247 rfl rfl rfl (by kernel_rfl) (by kernel_rfl) ?_
 try simp only [go_sem]
 refine cond_i (fun hb1 => ?_) (fun hb1 => ?_)
 ·replace h := ifT (c := (decide (0 ≤ a0))) hb1 h
  try simp only [go_sem]
  refine seq_go ?_
  try simp only [go_sem]
  cases h
  simp only [go_sem]
 ·replace h := ifF (c := (decide (0 ≤ a0))) hb1 h
  try simp only [go_sem]
  refine seq_go ?_
  try simp only [go_sem]
  cases h
  simp only [go_sem]
theorem i_isAllowed_ok (a0 : Int) (a1 : Int) (r : Bool) (h : i_isAllowed a0 a1 = some r) : AC Tryz.prog 233 [.int .i64 a0, .int .i64 a1] (.bool r) := by
 unfold i_isAllowed at h
 refine ac_fn mixed Tryz.func233 rfl rfl rfl (by kernel_rfl) (by kernel_rfl) ?_
 try simp only [go_sem]
 replace h := bindE h
 obtain ⟨v2001, hv2001, h⟩ := h
 refine call_i (i_isKind_ok _ _ hv2001) ?_
 try simp only [go_sem]
 refine cond_i (fun hb1 => ?_) (fun hb1 => ?_)
 ·replace h := ifT (c := v2001) hb1 h
  try simp only [go_sem]
  refine cond_i (fun hb2 => ?_) (fun hb2 => ?_)
  ·replace h := ifT (c := (decide (a1 = 0))) hb2 h
   try simp only [go_sem]
   refine seq_go ?_
   try simp only [go_sem]
   cases h
   simp only [go_sem]
  ·replace h := ifF (c := (decide (a1 = 0))) hb2 h
   try simp only [go_sem]
   replace h := bindE h
   obtain ⟨v2007, hv2007, h⟩ := h
   refine call_i (i_HasLevel_ok _ _ hv2007) ?_
   try simp only [go_sem]
   refine cond_i (fun hb3 => ?_) (fun hb3 => ?_)
   ·replace h := ifT (c := v2007) hb3 h
    try simp only [go_sem]
    replace h := bindE h
    obtain ⟨v2010, hv2010, h⟩ := h
    refine call_i (i_isLevel_ok _ _ hv2010) ?_
    try simp only [go_sem]
    refine seq_go ?_
    try simp only [go_sem]
    cases h
    simp only [go_sem]
   ·replace h := ifF (c := v2007) hb3 h
    try simp only [go_sem]
    refine seq_go ?_
    try simp only [go_sem]
    cases h
    simp only [go_sem]
 ·replace h := ifF (c := v2001) hb1 h
  try simp only [go_sem]
  refine seq_go ?_
  try simp only [go_sem]
  cases h
  simp only [go_sem]
theorem i_isDefIndex_ok (a0 : Int) (r : Bool) (h : i_isDefIndex a0 = some r) : AC Tryz.prog 235 [.int .i64 a0] (.bool r) := by
 unfold i_isDefIndex at h
 refine ac_fn mixed Tryz.func235 rfl rfl rfl (by kernel_rfl) (by kernel_rfl) ?_
 try simp only [go_sem]
 refine cond_i (fun hb1 => ?_) (fun hb1 => ?_)
 ·replace h := ifT (c := (decide (0 ≤ a0))) hb1 h
  try simp only [go_sem]
  refine seq_go ?_
  try simp only [go_sem]
  cases h
  simp only [go_sem]
 ·replace h := ifF (c := (decide (0 ≤ a0))) hb1 h
  try simp only [go_sem]
  refine seq_go ?_
  try simp only [go_sem]
  cases h
  simp only [go_sem]
theorem i_wellFormed_1_ok (a0 : Int) (r : Bool) (h : i_wellFormed_1 a0 = some r) : AC Tryz.prog 234 [.int .i64 a0] (.bool r) := by
 unfold i_wellFormed_1 at h
 refine ac_fn mixed Tryz.func234 rfl rfl rfl (by kernel_rfl) (by kernel_rfl) ?_
 try simp only [go_sem]
 replace h := bindE h
 obtain ⟨v2001, hv2001, h⟩ := h
 refine call_i (i_isDefIndex_ok _ _ hv2001) ?_
 try simp only [go_sem]
 refine seq_go ?_
 try simp only [go_sem]
 cases h
 simp only [go_sem]
theorem i_isInt_ok (a0 : Int) (r : Bool) (h : i_isInt a0 = some r) : AC Tryz.prog 236 [.int .i64 a0] (.bool r) := by
 unfold i_isInt at h
 refine ac_fn mixed Tryz.func236 rfl rfl rfl (by kernel_rfl) (by kernel_rfl) ?_
 try simp only [go_sem]
 refine cond_i (fun hb1 => ?_) (fun hb1 => ?_)
 ·replace h := ifT (c := (decide ((-2147483648) ≤ a0))) hb1 h
  try simp only [go_sem]
  refine seq_go ?_
  try simp only [go_sem]
  cases h
  simp only [go_sem]
 ·replace h := ifF (c := (decide ((-2147483648) ≤ a0))) hb1 h
  try simp only [go_sem]
  refine seq_go ?_
  try simp only [go_sem]
  cases h
  simp only [go_sem]
theorem i_isOperator_ok (a0 : Int) (r : Bool) (h : i_isOperator a0 = some r) : AC Tryz.prog 237 [.int .i64 a0] (.bool r) := by
 unfold i_isOperator at h
 refine ac_fn mixed Tryz.func237 rfl rfl rfl (by kernel_rfl) (by kernel_rfl) ?_
 try simp only [go_sem]
 refine cond_i (fun hb1 => ?_) (fun hb1 => ?_)
 ·replace h := ifT (c := (decide (1 ≤ a0))) hb1 h
  try simp only [go_sem]
  refine seq_go ?_
  try simp only [go_sem]
  cases h
  simp only [go_sem]
 ·replace h := ifF (c := (decide (1 ≤ a0))) hb1 h
  try simp only [go_sem]
  refine seq_go ?_
  try simp only [go_sem]
  cases h
  simp only [go_sem]
theorem i_wellFormed_j2_ok (p1_0 : Bool) (p1_1 : Bool) (r : Bool) (h : i_wellFormed_j2 p1_0 p1_1 = some r) : posF Tryz.prog Tryz.f201 [1, 1, 1, 1, 1] (.bool r) ⟨[(3, .bool p1_0), (4, .bool p1_1)], [], []⟩ := by
 unfold i_wellFormed_j2 at h
 refine posF_of rfl rfl ?_
 try simp only [go_sem]
 refine cond_i (fun hb17 => ?_) (fun hb17 => ?_)
 ·replace h := ifT (c := p1_0) hb17 h
  try simp only [go_sem]
  refine seq_go ?_
  try simp only [go_sem]
  cases h
  simp only [go_sem]
 ·replace h := ifF (c := p1_0) hb17 h
  try simp only [go_sem]
  refine seq_go ?_
  try simp only [go_sem]
  cases h
  simp only [go_sem]
theorem i_wellFormed_j1_ok (a0 : Agent) (p0_0 : Bool) (r : Bool) (h : i_wellFormed_j1 a0 p0_0 = some r) : posF Tryz.prog Tryz.f201 [1, 0, 1] (.bool r) ⟨[(1, .box 1000000500 0), (32, .bool p0_0)], [], [(1000000500, some [.int .i64 a0.kind, .int .i64 a0.level, .int .i64 a0.value, .ro (List.map i64D a0.data), .ro (List.map Port.ds a0.ports)])]⟩ := by
 unfold i_wellFormed_j1 at h
 refine posF_of rfl rfl ?_
 try simp only [go_sem]
 refine cond_i (fun hb3 => ?_) (fun hb3 => ?_)
 ·replace h := ifT (c := p0_0) hb3 h
  try simp only [go_sem]
  cases h
  simp only [go_sem]
 ·replace h := ifF (c := p0_0) hb3 h
  try simp only [go_sem]
  refine seq_go ?_
  try simp only [go_sem]
  refine draw_i [] .fin (by kernel_rfl) ?_
  try simp only [go_sem]
  refine seq_go ?_
  try simp only [go_sem]
  replace h := bindE h
  obtain ⟨v5002, hv5002, h⟩ := h
  refine call_i (g_ContainsFunc_sint64_ok _ _ 234 [] (Still.of rfl) (fun y0 q hq => i_wellFormed_1_ok y0  q hq) _ hv5002) ?_
  try simp only [go_sem]
  refine seq_go ?_
  try simp only [go_sem]
  refine cond_i (fun hb4 => ?_) (fun hb4 => ?_)
  ·replace h := ifT (c := (decide (a0.kind = 6))) hb4 h
   try simp only [go_sem]
   replace h := bindE h
   obtain ⟨v8002, hv8002, h⟩ := h
   refine call_i (i_isInt_ok _ _ hv8002) ?_
   try simp only [go_sem]
   have hj := posF_to rfl rfl (i_wellFormed_j2_ok v8002 (decide (((List.length a0.data : Nat) : Int) = 0)) _ h)
   refine seq_to hj (.one ⟨_, .done _, [], [], ?_⟩)
   clear hj
   try simp only [go_sem]
  ·replace h := ifF (c := (decide (a0.kind = 6))) hb4 h
   try simp only [go_sem]
   refine cond_i (fun hb5 => ?_) (fun hb5 => ?_)
   ·replace h := ifT (c := (decide (a0.kind = 7))) hb5 h
    try simp only [go_sem]
    replace h := bindE h
    obtain ⟨v10002, hv10002, h⟩ := h
    refine call_i (i_isOperator_ok _ _ hv10002) ?_
    try simp only [go_sem]
    have hj := posF_to rfl rfl (i_wellFormed_j2_ok v10002 (decide (((List.length a0.data : Nat) : Int) = 0)) _ h)
    refine seq_to hj (.one ⟨_, .done _, [], [], ?_⟩)
    clear hj
    try simp only [go_sem]
   ·replace h := ifF (c := (decide (a0.kind = 7))) hb5 h
    try simp only [go_sem]
    refine cond_i (fun hb6 => ?_) (fun hb6 => ?_)
    ·replace h := ifT (c := (decide (a0.kind = 8))) hb6 h
     try simp only [go_sem]
     replace h := bindE h
     obtain ⟨v12002, hv12002, h⟩ := h
     refine call_i (i_isOperator_ok _ _ hv12002) ?_
     try simp only [go_sem]
     refine cond_i (fun hb7 => ?_) (fun hb7 => ?_)
     ·replace h := ifT (c := v12002) hb7 h
      try simp only [go_sem]
      refine cond_i (fun hb8 => ?_) (fun hb8 => ?_)
      ·replace h := ifT (c := (decide (((List.length a0.data : Nat) : Int) = 1))) hb8 h
       try simp only [go_sem]
       replace h := bindE h
       obtain ⟨v12012, hv12012, h⟩ := h
       refine idx_m hv12012 rfl ?_
       try simp only [go_sem]
       replace h := bindE h
       obtain ⟨v12014, hv12014, h⟩ := h
       refine call_i (i_isInt_ok _ _ hv12014) ?_
       try simp only [go_sem]
       refine seq_go ?_
       try simp only [go_sem]
       cases h
       simp only [go_sem]
      ·replace h := ifF (c := (decide (((List.length a0.data : Nat) : Int) = 1))) hb8 h
       try simp only [go_sem]
       refine seq_go ?_
       try simp only [go_sem]
       cases h
       simp only [go_sem]
     ·replace h := ifF (c := v12002) hb7 h
      try simp only [go_sem]
      refine seq_go ?_
      try simp only [go_sem]
      cases h
      simp only [go_sem]
    ·replace h := ifF (c := (decide (a0.kind = 8))) hb6 h
     try simp only [go_sem]
     refine cond_i (fun hb9 => ?_) (fun hb9 => ?_)
     ·replace h := ifT (c := (decide (a0.kind = 9))) hb9 h
      try simp only [go_sem]
      refine cond_i (fun hb10 => ?_) (fun hb10 => ?_)
      ·replace h := ifT (c := (decide (0 ≤ a0.value))) hb10 h
       try simp only [go_sem]
       have hj := posF_to rfl rfl (i_wellFormed_j2_ok (decide (a0.value < 4)) (decide (((List.length a0.data : Nat) : Int) = 0)) _ h)
       refine seq_to hj (.one ⟨_, .done _, [], [], ?_⟩)
       clear hj
       try simp only [go_sem]
      ·replace h := ifF (c := (decide (0 ≤ a0.value))) hb10 h
       try simp only [go_sem]
       have hj := posF_to rfl rfl (i_wellFormed_j2_ok false (decide (((List.length a0.data : Nat) : Int) = 0)) _ h)
       refine seq_to hj (.one ⟨_, .done _, [], [], ?_⟩)
       clear hj
       try simp only [go_sem]
     ·replace h := ifF (c := (decide (a0.kind = 9))) hb9 h
      try simp only [go_sem]
      refine cond_i (fun hb11 => ?_) (fun hb11 => ?_)
      ·replace h := ifT (c := (decide (a0.kind = 10))) hb11 h
       try simp only [go_sem]
       refine cond_i (fun hb12 => ?_) (fun hb12 => ?_)
       ·replace h := ifT (c := (decide (1 ≤ ((List.length a0.data : Nat) : Int)))) hb12 h
        try simp only [go_sem]
        refine cond_i (fun hb13 => ?_) (fun hb13 => ?_)
        ·replace h := ifT (c := (decide (((List.length a0.data : Nat) : Int) ≤ 4))) hb13 h
         try simp only [go_sem]
         have hj := posF_to rfl rfl (i_wellFormed_j2_ok (decide (a0.value = 0)) (!v5002) _ h)
         refine seq_to hj (.one ⟨_, .done _, [], [], ?_⟩)
         clear hj
         try simp only [go_sem]
        ·replace h := ifF (c := (decide (((List.length a0.data : Nat) : Int) ≤ 4))) hb13 h
         try simp only [go_sem]
         have hj := posF_to rfl rfl (i_wellFormed_j2_ok (decide (a0.value = 0)) false _ h)
         refine seq_to hj (.one ⟨_, .done _, [], [], ?_⟩)
         clear hj
         try simp only [go_sem]
       ·replace h := ifF (c := (decide (1 ≤ ((List.length a0.data : Nat) : Int)))) hb12 h
        try simp only [go_sem]
        have hj := posF_to rfl rfl (i_wellFormed_j2_ok (decide (a0.value = 0)) false _ h)
        refine seq_to hj (.one ⟨_, .done _, [], [], ?_⟩)
        clear hj
        try simp only [go_sem]
      ·replace h := ifF (c := (decide (a0.kind = 10))) hb11 h
       try simp only [go_sem]
       refine cond_i (fun hb14 => ?_) (fun hb14 => ?_)
       ·replace h := ifT (c := (decide (a0.kind = 11))) hb14 h
        try simp only [go_sem]
        refine cond_i (fun hb15 => ?_) (fun hb15 => ?_)
        ·replace h := ifT (c := (decide (((List.length a0.data : Nat) : Int) = 2))) hb15 h
         try simp only [go_sem]
         have hj := posF_to rfl rfl (i_wellFormed_j2_ok (decide (a0.value = 0)) (!v5002) _ h)
         refine seq_to hj (.one ⟨_, .done _, [], [], ?_⟩)
         clear hj
         try simp only [go_sem]
        ·replace h := ifF (c := (decide (((List.length a0.data : Nat) : Int) = 2))) hb15 h
         try simp only [go_sem]
         have hj := posF_to rfl rfl (i_wellFormed_j2_ok (decide (a0.value = 0)) false _ h)
         refine seq_to hj (.one ⟨_, .done _, [], [], ?_⟩)
         clear hj
         try simp only [go_sem]
       ·replace h := ifF (c := (decide (a0.kind = 11))) hb14 h
        try simp only [go_sem]
        refine cond_i (fun hb16 => ?_) (fun hb16 => ?_)
        ·replace h := ifT (c := (decide (a0.kind = 12))) hb16 h
         try simp only [go_sem]
         replace h := bindE h
         obtain ⟨v20002, hv20002, h⟩ := h
         refine call_i (i_isDefIndex_ok _ _ hv20002) ?_
         try simp only [go_sem]
         have hj := posF_to rfl rfl (i_wellFormed_j2_ok v20002 (decide (((List.length a0.data : Nat) : Int) = 0)) _ h)
         refine seq_to hj (.one ⟨_, .done _, [], [], ?_⟩)
         clear hj
         try simp only [go_sem]
        ·replace h := ifF (c := (decide (a0.kind = 12))) hb16 h
         try simp only [go_sem]
         have hj := posF_to rfl rfl (i_wellFormed_j2_ok (decide (a0.value = 0)) (decide (((List.length a0.data : Nat) : Int) = 0)) _ h)
         refine seq_to hj (.one ⟨_, .done _, [], [], ?_⟩)
         clear hj
         try simp only [go_sem]
theorem i_wellFormed_ok (a0 : Agent) (r : Bool) (h : i_wellFormed a0 = some r) : AC Tryz.prog 201 [.agg (Agent.avs a0)] (.bool r) := by
 unfold i_wellFormed at h
 refine ac_fn mixed Tryz.func201 rfl rfl rfl (by kernel_rfl) (by kernel_rfl) ?_
 try simp only [go_sem]
 refine draw_i [] .fin (by kernel_rfl) ?_
 try simp only [go_sem]
 refine cond_i (fun hb1 => ?_) (fun hb1 => ?_)
 ·replace h := ifT (c := (decide (((List.length a0.ports : Nat) : Int) = 0))) hb1 h
  try simp only [go_sem]
  have hj := posF_to rfl rfl (i_wellFormed_j1_ok a0 true _ h)
  refine seq_to hj (.one ⟨_, .done _, [], [(1000000500, 1000)], ?_⟩)
  clear hj
  try simp only [go_sem]
 ·replace h := ifF (c := (decide (((List.length a0.ports : Nat) : Int) = 0))) hb1 h
  try simp only [go_sem]
  replace h := bindE h
  obtain ⟨v2012, hv2012, h⟩ := h
  refine call_i (i_fieldsOf_ok _ _ _ hv2012) ?_
  try simp only [go_sem]
  replace h := bindE h
  obtain ⟨v2013, hv2013, h⟩ := h
  refine call_i (i_PortsOf_ok _ _ _ hv2013) ?_
  try simp only [go_sem]
  refine cond_i (fun hb2 => ?_) (fun hb2 => ?_)
  ·replace h := ifT (c := (!decide (v2013 = ((List.length a0.ports : Nat) : Int)))) hb2 h
   try simp only [go_sem]
   have hj := posF_to rfl rfl (i_wellFormed_j1_ok a0 true _ h)
   refine seq_to hj (.one ⟨_, .done _, [], [(1000000500, 1000)], ?_⟩)
   clear hj
   try simp only [go_sem]
  ·replace h := ifF (c := (!decide (v2013 = ((List.length a0.ports : Nat) : Int)))) hb2 h
   try simp only [go_sem]
   replace h := bindE h
   obtain ⟨v2024, hv2024, h⟩ := h
   refine call_i (i_isAllowed_ok _ _ _ hv2024) ?_
   try simp only [go_sem]
   have hj := posF_to rfl rfl (i_wellFormed_j1_ok a0 (!v2024) _ h)
   refine seq_to hj (.one ⟨_, .done _, [], [(1000000500, 1000)], ?_⟩)
   clear hj
   try simp only [go_sem]
theorem i_areAgents_l4_all (n : Nat) : (∀ (a0 : List Agent) (p1_0 : Int) (r : Bool), i_areAgents_l4 n a0 p1_0 = some r → posF Tryz.prog Tryz.f152 [1, 1, 0, 1, 0] (.bool r) ⟨[(13, .ro (List.map Agent.ds a0)), (14, .int .i64 ((List.length a0 : Nat) : Int)), (15, .int .i64 p1_0)], [], []⟩) ∧
    (∀ (a0 : List Agent) (p1_0 : Int) (p2_0 : Bool) (r : Bool), i_areAgents_j5 n a0 p1_0 p2_0 = some r → posF Tryz.prog Tryz.f152 [1, 1, 0, 1, 0, 0, 1, 1, 0, 0, 1, 1] (.bool r) ⟨[(13, .ro (List.map Agent.ds a0)), (14, .int .i64 ((List.length a0 : Nat) : Int)), (15, .int .i64 p1_0), (30, .bool p2_0)], [], []⟩) := by
 induction n with
 | zero => exact ⟨(fun _ _ _ h => by rw [i_areAgents_l4] at h; cases h), (fun _ _ _ _ h => by rw [i_areAgents_j5] at h; cases h)⟩
 | succ n ih =>
  obtain ⟨ih0, ih1⟩ := ih
  refine ⟨?_, ?_⟩
  ·intro a0 p1_0 r h
   rw [i_areAgents_l4] at h
   refine posF_of rfl rfl ?_
   try simp only [go_sem]
   refine loop_i ?_
   try simp only [go_sem]
   refine cond_i (fun hb3 => ?_) (fun hb3 => ?_)
   ·replace h := ifT (c := (decide (p1_0 < ((List.length a0 : Nat) : Int)))) hb3 h
    try simp only [go_sem]
    refine seq_go ?_
    try simp only [go_sem]
    replace h := bindE h
    obtain ⟨v6001, hv6001, h⟩ := h
    refine idx_m hv6001 (Agent.ds_len _) ?_
    try simp only [go_sem]
    replace h := bindE h
    obtain ⟨v7001, hv7001, h⟩ := h
    refine call_i (i_wellFormed_ok _ _ hv7001) ?_
    try simp only [go_sem]
    refine cond_i (fun hb4 => ?_) (fun hb4 => ?_)
    ·replace h := ifT (c := (!v7001)) hb4 h
     try simp only [go_sem]
     have hj := posF_to rfl rfl (ih1 a0 p1_0 true _ h)
     refine seq_to hj (.one ⟨_, .done _, [], [], ?_⟩)
     clear hj
     try simp only [go_sem]
    ·replace h := ifF (c := (!v7001)) hb4 h
     try simp only [go_sem]
     have hj := posF_to rfl rfl (ih1 a0 p1_0 (!((decide (v6001.kind = 1)) == (decide (p1_0 = 0)))) _ h)
     refine seq_to hj (.one ⟨_, .done _, [], [], ?_⟩)
     clear hj
     try simp only [go_sem]
   ·replace h := ifF (c := (decide (p1_0 < ((List.length a0 : Nat) : Int)))) hb3 h
    try simp only [go_sem]
    refine seq_go ?_
    try simp only [go_sem]
    cases h
    simp only [go_sem]
  ·intro a0 p1_0 p2_0 r h
   rw [i_areAgents_j5] at h
   refine posF_of rfl rfl ?_
   try simp only [go_sem]
   refine cond_i (fun hb5 => ?_) (fun hb5 => ?_)
   ·replace h := ifT (c := p2_0) hb5 h
    try simp only [go_sem]
    cases h
    simp only [go_sem]
   ·replace h := ifF (c := p2_0) hb5 h
    try simp only [go_sem]
    refine seq_go ?_
    try simp only [go_sem]
    have hj := posF_to rfl rfl (ih0 a0 (IntKind.i64.wrap (p1_0 + 1)) _ h)
    refine lp_to hj (.one ⟨_, .done _, [], [], ?_⟩)
    clear hj
    try simp only [go_sem]
theorem i_areAgents_l4_ok (n : Nat) : (∀ (a0 : List Agent) (p1_0 : Int) (r : Bool), i_areAgents_l4 n a0 p1_0 = some r → posF Tryz.prog Tryz.f152 [1, 1, 0, 1, 0] (.bool r) ⟨[(13, .ro (List.map Agent.ds a0)), (14, .int .i64 ((List.length a0 : Nat) : Int)), (15, .int .i64 p1_0)], [], []⟩) := (i_areAgents_l4_all n).1
theorem i_areAgents_j5_ok (n : Nat) : (∀ (a0 : List Agent) (p1_0 : Int) (p2_0 : Bool) (r : Bool), i_areAgents_j5 n a0 p1_0 p2_0 = some r → posF Tryz.prog Tryz.f152 [1, 1, 0, 1, 0, 0, 1, 1, 0, 0, 1, 1] (.bool r) ⟨[(13, .ro (List.map Agent.ds a0)), (14, .int .i64 ((List.length a0 : Nat) : Int)), (15, .int .i64 p1_0), (30, .bool p2_0)], [], []⟩) := (i_areAgents_l4_all n).2
theorem i_areAgents_j1_ok (a0 : List Agent) (p0_0 : Bool) (r : Bool) (h : i_areAgents_j1 a0 p0_0 = some r) : posF Tryz.prog Tryz.f152 [1, 0, 1] (.bool r) ⟨[(0, .ro (List.map Agent.ds a0)), (12, .bool p0_0)], [], []⟩ := by
 unfold i_areAgents_j1 at h
 refine posF_of rfl rfl ?_
 try simp only [go_sem]
 refine cond_i (fun hb2 => ?_) (fun hb2 => ?_)
 ·replace h := ifT (c := p0_0) hb2 h
  try simp only [go_sem]
  cases h
  simp only [go_sem]
 ·replace h := ifF (c := p0_0) hb2 h
  try simp only [go_sem]
  refine seq_go ?_
  try simp only [go_sem]
  have hj := posF_to rfl rfl (i_areAgents_l4_ok fuel a0 0 _ h)
  refine loop_to hj (.one ⟨_, .done _, [], [], ?_⟩)
  clear hj
  try simp only [go_sem]
theorem i_areAgents_ok (a0 : List Agent) (r : Bool) (h : i_areAgents a0 = some r) : AC Tryz.prog 152 [.ro (List.map Agent.ds a0)] (.bool r) := by
 unfold i_areAgents at h
 refine ac_fn mixed Tryz.func152 rfl rfl rfl (by kernel_rfl) (by kernel_rfl) ?_
 try simp only [go_sem]
 refine cond_i (fun hb1 => ?_) (fun hb1 => ?_)
 ·replace h := ifT (c := (decide (((List.length a0 : Nat) : Int) < 1))) hb1 h
  try simp only [go_sem]
  have hj := posF_to rfl rfl (i_areAgents_j1_ok a0 true _ h)
  refine seq_to hj (.one ⟨_, .done _, [], [], ?_⟩)
  clear hj
  try simp only [go_sem]
 ·replace h := ifF (c := (decide (((List.length a0 : Nat) : Int) < 1))) hb1 h
  try simp only [go_sem]
  have hj := posF_to rfl rfl (i_areAgents_j1_ok a0 (decide (600 < ((List.length a0 : Nat) : Int))) _ h)
  refine seq_to hj (.one ⟨_, .done _, [], [], ?_⟩)
  clear hj
  try simp only [go_sem]
theorem g_IndexFunc_simpl_Port_l1_ok (n : Nat) : (∀ (a0 : List Port) (p0_0 : Int) (f1 : (Port → Option Bool)) (g1 : FuncId) (c1 : List AV) (s1 : Still c1) (h1 : ∀ (y0 : Port) (q : Bool), f1 y0 = some q → AC Tryz.prog g1 (.agg (Port.avs y0) :: c1) (.bool q)) (r : Int), g_IndexFunc_simpl_Port_l1 n a0 p0_0 f1 = some r → posF Tryz.prog Tryz.f202 [1, 0, 1, 0] (.int .i64 r) ⟨[(0, .ro (List.map Port.ds a0)), (1, .fn g1 c1), (7, .int .i64 ((List.length a0 : Nat) : Int)), (8, .int .i64 p0_0)], [], []⟩) := by
 induction n with
 | zero => exact ((fun _ _ _ _ _ _ _ _ h => by rw [g_IndexFunc_simpl_Port_l1] at h; cases h))
 | succ n ih =>
  have ih0 := ih
  ·intro a0 p0_0 f1 g1 c1 s1 h1 r h
   rw [g_IndexFunc_simpl_Port_l1] at h
   refine posF_of rfl rfl ?_
   try simp only [go_sem, s1.k, s1.r, s1.c, s1.p]
   refine loop_i ?_
   try simp only [go_sem, s1.k, s1.r, s1.c, s1.p]
   refine cond_i (fun hb1 => ?_) (fun hb1 => ?_)
   ·replace h := ifT (c := (decide (p0_0 < ((List.length a0 : Nat) : Int)))) hb1 h
    try simp only [go_sem, s1.k, s1.r, s1.c, s1.p]
    refine seq_go ?_
    try simp only [go_sem, s1.k, s1.r, s1.c, s1.p]
    replace h := bindE h
    obtain ⟨v5003, hv5003, h⟩ := h
    refine idx_m hv5003 (Port.ds_len _) ?_
    try simp only [go_sem, s1.k, s1.r, s1.c, s1.p]
    replace h := bindE h
    obtain ⟨v5005, hv5005, h⟩ := h
    refine call_i (h1 _ _ hv5005) ?_
    try simp only [go_sem, s1.k, s1.r, s1.c, s1.p]
    refine seq_go ?_
    try simp only [go_sem, s1.k, s1.r, s1.c, s1.p]
    refine cond_i (fun hb2 => ?_) (fun hb2 => ?_)
    ·replace h := ifT (c := v5005) hb2 h
     try simp only [go_sem, s1.k, s1.r, s1.c, s1.p]
     cases h
     simp only [go_sem, s1.k, s1.r, s1.c, s1.p]
    ·replace h := ifF (c := v5005) hb2 h
     try simp only [go_sem, s1.k, s1.r, s1.c, s1.p]
     refine seq_go ?_
     try simp only [go_sem, s1.k, s1.r, s1.c, s1.p]
     have hj := posF_to rfl rfl (ih0 a0 (IntKind.i64.wrap (p0_0 + 1)) f1 g1 c1 s1 h1 _ h)
     refine lp_to hj (.one ⟨_, .done _, [], [], ?_⟩)
     clear hj
     try simp only [go_sem, s1.k, s1.r, s1.c, s1.p]
   ·replace h := ifF (c := (decide (p0_0 < ((List.length a0 : Nat) : Int)))) hb1 h
    try simp only [go_sem, s1.k, s1.r, s1.c, s1.p]
    refine seq_go ?_
    try simp only [go_sem, s1.k, s1.r, s1.c, s1.p]
    cases h
    simp only [go_sem, s1.k, s1.r, s1.c, s1.p]
theorem g_IndexFunc_simpl_Port_ok (a0 : List Port) (f1 : (Port → Option Bool)) (g1 : FuncId) (c1 : List AV) (s1 : Still c1) (h1 : ∀ (y0 : Port) (q : Bool), f1 y0 = some q → AC Tryz.prog g1 (.agg (Port.avs y0) :: c1) (.bool q)) (r : Int) (h : g_IndexFunc_simpl_Port a0 f1 = some r) : AC Tryz.prog 202 [.ro (List.map Port.ds a0), .fn g1 c1] (.int .i64 r) := by
 unfold g_IndexFunc_simpl_Port at h
 refine ac_fn mixed Tryz.func202 rfl rfl rfl (by kernel_rfl) (by kernel_rfl) ?_
 try simp only [go_sem, s1.k, s1.r, s1.c, s1.p]
 have hj := posF_to rfl rfl (g_IndexFunc_simpl_Port_l1_ok fuel a0 0 f1 g1 c1 s1 h1 _ h)
 refine loop_to hj (.one ⟨_, .done _, [], [], ?_⟩)
 clear hj
 try simp only [go_sem, s1.k, s1.r, s1.c, s1.p]
theorem g_ContainsFunc_simpl_Port_ok (a0 : List Port) (f1 : (Port → Option Bool)) (g1 : FuncId) (c1 : List AV) (s1 : Still c1) (h1 : ∀ (y0 : Port) (q : Bool), f1 y0 = some q → AC Tryz.prog g1 (.agg (Port.avs y0) :: c1) (.bool q)) (r : Bool) (h : g_ContainsFunc_simpl_Port a0 f1 = some r) : AC Tryz.prog 153 [.ro (List.map Port.ds a0), .fn g1 c1] (.bool r) := by
 unfold g_ContainsFunc_simpl_Port at h
 refine ac_fn mixed Tryz.func153 rfl rfl rfl (by kernel_rfl) (by kernel_rfl) ?_
 try simp only [go_sem, s1.k, s1.r, s1.c, s1.p]
 replace h := bindE h
 obtain ⟨v2002, hv2002, h⟩ := h
 refine call_i (g_IndexFunc_simpl_Port_ok _ _ g1 c1 s1 h1 _ hv2002) ?_
 try simp only [go_sem, s1.k, s1.r, s1.c, s1.p]
 refine seq_go ?_
 try simp only [go_sem, s1.k, s1.r, s1.c, s1.p]
 cases h
 simp only [go_sem, s1.k, s1.r, s1.c, s1.p]
theorem i_Net_ports_l4_all (n : Nat) : (∀ (a0 : Net) (p0_0 : List Port) (p0_1 : Int) (r : (List Port)), i_Net_ports_l4 n a0 p0_0 p0_1 = some r → posF Tryz.prog Tryz.f154 [1, 1, 0, 1, 0] (.ow (some 2) (List.map Port.ds r)) ⟨[(3, .own 1000000000), (10, .ro (List.map Agent.ds a0.agents)), (11, .int .i64 ((List.length a0.agents : Nat) : Int)), (12, .int .i64 p0_1)], [(1000000000, some ⟨List.map Port.ds p0_0, some 2, 0, false⟩)], []⟩) ∧
    (∀ (a0 : Net) (p0_1 : Int) (v5001 : Agent) (p4_0 : List Port) (p4_1 : Int) (r : (List Port)), i_Net_ports_l8 n a0 p0_1 v5001 p4_0 p4_1 = some r → posF Tryz.prog Tryz.f154 [1, 1, 0, 1, 0, 0, 1, 1, 0, 0, 1, 1, 0] (.ow (some 2) (List.map Port.ds r)) ⟨[(3, .own 1000004000), (4, .int .i64 p0_1), (10, .ro (List.map Agent.ds a0.agents)), (11, .int .i64 ((List.length a0.agents : Nat) : Int)), (12, .int .i64 p0_1), (19, .int .i64 ((List.length v5001.ports : Nat) : Int)), (20, .int .i64 p4_1)], [(1000004000, some ⟨List.map Port.ds p4_0, some 2, 0, false⟩)], []⟩) := by
 induction n with
 | zero => exact ⟨(fun _ _ _ _ h => by rw [i_Net_ports_l4] at h; cases h), (fun _ _ _ _ _ _ h => by rw [i_Net_ports_l8] at h; cases h)⟩
 | succ n ih =>
  obtain ⟨ih0, ih1⟩ := ih
  refine ⟨?_, ?_⟩
  ·intro a0 p0_0 p0_1 r h
   rw [i_Net_ports_l4] at h
   refine posF_of rfl rfl ?_
   try simp only [go_sem]
   refine loop_i ?_
   try simp only [go_sem]
   refine cond_i (fun hb1 => ?_) (fun hb1 => ?_)
   ·replace h := ifT (c := (decide (p0_1 < ((List.length a0.agents : Nat) : Int)))) hb1 h
    try simp only [go_sem]
    refine seq_go ?_
    try simp only [go_sem]
    replace h := bindE h
    obtain ⟨v5001, hv5001, h⟩ := h
    refine idx_m hv5001 (Agent.ds_len _) ?_
    try simp only [go_sem]
    have hj := posF_to rfl rfl (ih1 a0 p0_1 v5001 p0_0 0 _ h)
    refine loop_to hj (.one ⟨_, .done _, [(1000004000, 1000000000)], [], ?_⟩)
    clear hj
    try simp only [go_sem]
   ·replace h := ifF (c := (decide (p0_1 < ((List.length a0.agents : Nat) : Int)))) hb1 h
    try simp only [go_sem]
    refine seq_go ?_
    try simp only [go_sem]
    cases h
    simp only [go_sem]
  ·intro a0 p0_1 v5001 p4_0 p4_1 r h
   rw [i_Net_ports_l8] at h
   refine posF_of rfl rfl ?_
   try simp only [go_sem]
   refine loop_i ?_
   try simp only [go_sem]
   refine cond_i (fun hb2 => ?_) (fun hb2 => ?_)
   ·replace h := ifT (c := (decide (p4_1 < ((List.length v5001.ports : Nat) : Int)))) hb2 h
    try simp only [go_sem]
    refine seq_go ?_
    try simp only [go_sem]
    replace h := bindE h
    obtain ⟨v9005, hv9005, h⟩ := h
    have hq_ := app_some hv9005
    obtain ⟨hv9005a, hv9005b⟩ := hq_
    refine zed_i false ?_
    try simp only [go_sem]
    refine and_i (by refine ⟨?_, ?_⟩ <;> (try simp only [List.length_map, List.length_append, List.length_cons, List.length_nil] at *) <;> (try unfold maxLen) <;> omega) ?_
    try simp only [go_sem]
    refine row_i (List.map Port.ds v9005) (by rw [← hv9005b]; simp only [List.map_append, List.map_cons, List.map_nil, List.nil_append, List.append_nil, go_sem, Port.ds_eq]) ?_
    try simp only [go_sem]
    refine seq_go ?_
    try simp only [go_sem]
    have hj := posF_to rfl rfl (ih1 a0 p0_1 v5001 v9005 (IntKind.i64.wrap (p4_1 + 1)) _ h)
    refine lp_to hj (.one ⟨_, .done _, [(1000004000, 144080)], [], ?_⟩)
    clear hj
    try simp only [go_sem]
   ·replace h := ifF (c := (decide (p4_1 < ((List.length v5001.ports : Nat) : Int)))) hb2 h
    try simp only [go_sem]
    refine seq_go ?_
    try simp only [go_sem]
    have hj := posF_to rfl rfl (ih0 a0 p4_0 (IntKind.i64.wrap (p0_1 + 1)) _ h)
    refine lp_to hj (.one ⟨_, .done _, [(1000000000, 1000004000)], [], ?_⟩)
    clear hj
    try simp only [go_sem]
theorem i_Net_ports_l4_ok (n : Nat) : (∀ (a0 : Net) (p0_0 : List Port) (p0_1 : Int) (r : (List Port)), i_Net_ports_l4 n a0 p0_0 p0_1 = some r → posF Tryz.prog Tryz.f154 [1, 1, 0, 1, 0] (.ow (some 2) (List.map Port.ds r)) ⟨[(3, .own 1000000000), (10, .ro (List.map Agent.ds a0.agents)), (11, .int .i64 ((List.length a0.agents : Nat) : Int)), (12, .int .i64 p0_1)], [(1000000000, some ⟨List.map Port.ds p0_0, some 2, 0, false⟩)], []⟩) := (i_Net_ports_l4_all n).1
theorem i_Net_ports_l8_ok (n : Nat) : (∀ (a0 : Net) (p0_1 : Int) (v5001 : Agent) (p4_0 : List Port) (p4_1 : Int) (r : (List Port)), i_Net_ports_l8 n a0 p0_1 v5001 p4_0 p4_1 = some r → posF Tryz.prog Tryz.f154 [1, 1, 0, 1, 0, 0, 1, 1, 0, 0, 1, 1, 0] (.ow (some 2) (List.map Port.ds r)) ⟨[(3, .own 1000004000), (4, .int .i64 p0_1), (10, .ro (List.map Agent.ds a0.agents)), (11, .int .i64 ((List.length a0.agents : Nat) : Int)), (12, .int .i64 p0_1), (19, .int .i64 ((List.length v5001.ports : Nat) : Int)), (20, .int .i64 p4_1)], [(1000004000, some ⟨List.map Port.ds p4_0, some 2, 0, false⟩)], []⟩) := (i_Net_ports_l4_all n).2
theorem i_Net_ports_ok (a0 : Net) (r : (List Port)) (h : i_Net_ports a0 = some r) : AC Tryz.prog 154 [.rop (Net.avs a0) 0] (.ow (some 2) (List.map Port.ds r)) := by
 unfold i_Net_ports at h
 refine ac_fn mixed Tryz.func154 rfl rfl rfl (by kernel_rfl) (by kernel_rfl) ?_
 try simp only [go_sem]
 have hj := posF_to rfl rfl (i_Net_ports_l4_ok fuel a0 [] 0 _ h)
 refine loop_to hj (.one ⟨_, .slot 3 2000000000 (some 2) false (by simp only [go_sem]) (by simp only [go_sem]) (.done _), [(1000000000, 2000000000)], [], ?_⟩)
 clear hj
 simp only [go_sem]
 all_goals try rfl
theorem i_Net_peer_ok (a0 : Net) (a1 : Port) (r : Port) (h : i_Net_peer a0 a1 = some r) : AC Tryz.prog 156 [.rop (Net.avs a0) 0, .agg (Port.avs a1)] (.agg (Port.rv r)) := by
 unfold i_Net_peer at h
 refine ac_fn mixed Tryz.func156 rfl rfl rfl (by kernel_rfl) (by kernel_rfl) ?_
 try simp only [go_sem]
 refine draw_i [false, false, false, false, false, false, false, false, false, false, false, false, false, true] (Tr.sq [13] .fin) (by kernel_rfl) ?_
 try simp only [go_sem]
 replace h := bindE h
 obtain ⟨v2006, hv2006, h⟩ := h
 refine idx_m hv2006 (Agent.ds_len _) ?_
 try simp only [go_sem]
 replace h := bindE h
 obtain ⟨v2011, hv2011, h⟩ := h
 refine idx_m hv2011 (Port.ds_len _) ?_
 try simp only [go_sem]
 refine seq_go ?_
 try simp only [go_sem]
 cases h
 simp only [go_sem]
theorem i_hasPort_ok (a0 : List Agent) (a1 : Port) (r : Bool) (h : i_hasPort a0 a1 = some r) : AC Tryz.prog 157 [.ro (List.map Agent.ds a0), .agg (Port.avs a1)] (.bool r) := by
 unfold i_hasPort at h
 refine ac_fn mixed Tryz.func157 rfl rfl rfl (by kernel_rfl) (by kernel_rfl) ?_
 try simp only [go_sem]
 refine draw_i [] .fin (by kernel_rfl) ?_
 try simp only [go_sem]
 refine cond_i (fun hb1 => ?_) (fun hb1 => ?_)
 ·replace h := ifT (c := (decide (0 ≤ a1.agent))) hb1 h
  try simp only [go_sem]
  refine cond_i (fun hb2 => ?_) (fun hb2 => ?_)
  ·replace h := ifT (c := (decide (a1.agent < ((List.length a0 : Nat) : Int)))) hb2 h
   try simp only [go_sem]
   refine cond_i (fun hb3 => ?_) (fun hb3 => ?_)
   ·replace h := ifT (c := (decide (0 ≤ a1.slot))) hb3 h
    try simp only [go_sem]
    replace h := bindE h
    obtain ⟨v2021, hv2021, h⟩ := h
    refine idx_m hv2021 (Agent.ds_len _) ?_
    try simp only [go_sem]
    refine seq_go ?_
    try simp only [go_sem]
    cases h
    simp only [go_sem]
   ·replace h := ifF (c := (decide (0 ≤ a1.slot))) hb3 h
    try simp only [go_sem]
    refine seq_go ?_
    try simp only [go_sem]
    cases h
    simp only [go_sem]
  ·replace h := ifF (c := (decide (a1.agent < ((List.length a0 : Nat) : Int)))) hb2 h
   try simp only [go_sem]
   refine seq_go ?_
   try simp only [go_sem]
   cases h
   simp only [go_sem]
 ·replace h := ifF (c := (decide (0 ≤ a1.agent))) hb1 h
  try simp only [go_sem]
  refine seq_go ?_
  try simp only [go_sem]
  cases h
  simp only [go_sem]
theorem i_ValidNet_1_ok (a0 : Port) (a1 : Net) (r : Bool) (h : i_ValidNet_1 a0 a1 = some r) : AC Tryz.prog 155 [.agg (Port.avs a0), .rop (Net.avs a1) 0] (.bool r) := by
 unfold i_ValidNet_1 at h
 refine ac_fn mixed Tryz.func155 rfl rfl rfl (by kernel_rfl) (by kernel_rfl) ?_
 try simp only [go_sem]
 replace h := bindE h
 obtain ⟨v2001, hv2001, h⟩ := h
 refine call_i (i_Net_peer_ok _ _ _ hv2001) ?_
 try simp only [go_sem]
 refine seq_go ?_
 try simp only [go_sem]
 refine draw_i [] .fin (by kernel_rfl) ?_
 try simp only [go_sem]
 refine cond_i (fun hb1 => ?_) (fun hb1 => ?_)
 ·replace h := ifT (c := (decide (v2001.agent = a0.agent) && decide (v2001.slot = a0.slot))) hb1 h
  try simp only [go_sem]
  refine seq_go ?_
  try simp only [go_sem]
  cases h
  simp only [go_sem]
 ·replace h := ifF (c := (decide (v2001.agent = a0.agent) && decide (v2001.slot = a0.slot))) hb1 h
  try simp only [go_sem]
  replace h := bindE h
  obtain ⟨v3007, hv3007, h⟩ := h
  refine call_i (i_hasPort_ok _ _ _ hv3007) ?_
  try simp only [go_sem]
  refine cond_i (fun hb2 => ?_) (fun hb2 => ?_)
  ·replace h := ifT (c := (!v3007)) hb2 h
   try simp only [go_sem]
   refine seq_go ?_
   try simp only [go_sem]
   cases h
   simp only [go_sem]
  ·replace h := ifF (c := (!v3007)) hb2 h
   try simp only [go_sem]
   replace h := bindE h
   obtain ⟨v3012, hv3012, h⟩ := h
   refine call_i (i_Net_peer_ok _ _ _ hv3012) ?_
   try simp only [go_sem]
   refine seq_go ?_
   try simp only [go_sem]
   cases h
   simp only [go_sem]
theorem i_ValidNet_ok (a0 : Net) (r : Bool) (h : i_ValidNet a0 = some r) : AC Tryz.prog 86 [.agg (Net.avs a0)] (.bool r) := by
 unfold i_ValidNet at h
 refine ac_fn mixed Tryz.func86 rfl rfl rfl (by kernel_rfl) (by kernel_rfl) ?_
 try simp only [go_sem]
 replace h := bindE h
 obtain ⟨v2002, hv2002, h⟩ := h
 refine call_i (i_areAgents_ok _ _ hv2002) ?_
 try simp only [go_sem]
 refine seq_go ?_
 try simp only [go_sem]
 refine cond_i (fun hb1 => ?_) (fun hb1 => ?_)
 ·replace h := ifT (c := (!v2002)) hb1 h
  try simp only [go_sem]
  cases h
  simp only [go_sem]
 ·replace h := ifF (c := (!v2002)) hb1 h
  try simp only [go_sem]
  refine seq_go ?_
  try simp only [go_sem]
  replace h := bindE h
  obtain ⟨v4000, hv4000, h⟩ := h
  refine call_i (i_Net_ports_ok _ _ hv4000) ?_
  try simp only [go_sem]
  replace h := bindE h
  obtain ⟨v4002, hv4002, h⟩ := h
  refine call_i (g_ContainsFunc_simpl_Port_ok _ _ 155 [.rop [.ro (List.map Agent.ds a0.agents)] 0] (Still.of (by simp only [pureAs, pureA, Bool.and_true, Bool.true_and, Bool.and_self])) (fun y0 q hq => i_ValidNet_1_ok y0 _ q hq) _ hv4002) ?_
  try simp only [go_sem]
  refine seq_go ?_
  try simp only [go_sem]
  cases h
  simp only [go_sem]
theorem i_ValidTemplates_1_ok (a0 : Net) (r : Bool) (h : i_ValidTemplates_1 a0 = some r) : AC Tryz.prog 137 [.agg (Net.avs a0)] (.bool r) := by
 unfold i_ValidTemplates_1 at h
 refine ac_fn mixed Tryz.func137 rfl rfl rfl (by kernel_rfl) (by kernel_rfl) ?_
 try simp only [go_sem]
 replace h := bindE h
 obtain ⟨v2001, hv2001, h⟩ := h
 refine call_i (i_ValidNet_ok _ _ hv2001) ?_
 try simp only [go_sem]
 refine seq_go ?_
 try simp only [go_sem]
 cases h
 simp only [go_sem]
theorem i_ValidTemplates_ok (a0 : List Net) (r : Bool) (h : i_ValidTemplates a0 = some r) : AC Tryz.prog 78 [.ro (List.map Net.ds a0)] (.bool r) := by
 unfold i_ValidTemplates at h
 refine ac_fn mixed Tryz.func78 rfl rfl rfl (by kernel_rfl) (by kernel_rfl) ?_
 try simp only [go_sem]
 refine cond_i (fun hb1 => ?_) (fun hb1 => ?_)
 ·replace h := ifT (c := (decide (((List.length a0 : Nat) : Int) ≤ 24))) hb1 h
  try simp only [go_sem]
  replace h := bindE h
  obtain ⟨v2005, hv2005, h⟩ := h
  refine call_i (g_ContainsFunc_simpl_Net_ok _ _ 137 [] (Still.of rfl) (fun y0 q hq => i_ValidTemplates_1_ok y0  q hq) _ hv2005) ?_
  try simp only [go_sem]
  refine seq_go ?_
  try simp only [go_sem]
  cases h
  simp only [go_sem]
 ·replace h := ifF (c := (decide (((List.length a0 : Nat) : Int) ≤ 24))) hb1 h
  try simp only [go_sem]
  refine seq_go ?_
  try simp only [go_sem]
  cases h
  simp only [go_sem]
theorem i_ValidSchedule_1_ok (a0 : Int) (r : Bool) (h : i_ValidSchedule_1 a0 = some r) : AC Tryz.prog 185 [.int .i64 a0] (.bool r) := by
 unfold i_ValidSchedule_1 at h
 refine ac_fn mixed Tryz.func185 rfl rfl rfl (by kernel_rfl) (by kernel_rfl) ?_
 try simp only [go_sem]
 refine cond_i (fun hb1 => ?_) (fun hb1 => ?_)
 ·replace h := ifT (c := (decide (a0 < 0))) hb1 h
  try simp only [go_sem]
  refine seq_go ?_
  try simp only [go_sem]
  cases h
  simp only [go_sem]
 ·replace h := ifF (c := (decide (a0 < 0))) hb1 h
  try simp only [go_sem]
  refine seq_go ?_
  try simp only [go_sem]
  cases h
  simp only [go_sem]
theorem i_ValidSchedule_ok (a0 : List Int) (r : Bool) (h : i_ValidSchedule a0 = some r) : AC Tryz.prog 113 [.ro (List.map i64D a0)] (.bool r) := by
 unfold i_ValidSchedule at h
 refine ac_fn mixed Tryz.func113 rfl rfl rfl (by kernel_rfl) (by kernel_rfl) ?_
 try simp only [go_sem]
 refine cond_i (fun hb1 => ?_) (fun hb1 => ?_)
 ·replace h := ifT (c := (decide (((List.length a0 : Nat) : Int) ≤ 200))) hb1 h
  try simp only [go_sem]
  replace h := bindE h
  obtain ⟨v2005, hv2005, h⟩ := h
  refine call_i (g_ContainsFunc_sint64_ok _ _ 185 [] (Still.of rfl) (fun y0 q hq => i_ValidSchedule_1_ok y0  q hq) _ hv2005) ?_
  try simp only [go_sem]
  refine seq_go ?_
  try simp only [go_sem]
  cases h
  simp only [go_sem]
 ·replace h := ifF (c := (decide (((List.length a0 : Nat) : Int) ≤ 200))) hb1 h
  try simp only [go_sem]
  refine seq_go ?_
  try simp only [go_sem]
  cases h
  simp only [go_sem]
theorem i_isEmptyNet_ok (a0 : Net) (r : Bool) (h : i_isEmptyNet a0 = some r) : AC Tryz.prog 220 [.agg (Net.avs a0)] (.bool r) := by
 unfold i_isEmptyNet at h
 refine ac_fn mixed Tryz.func220 rfl rfl rfl (by kernel_rfl) (by kernel_rfl) ?_
 try simp only [go_sem]
 cases h
 simp only [go_sem]
theorem i_Job_contentsOk_ok (a0 : Job) (r : Bool) (h : i_Job_contentsOk a0 = some r) : AC Tryz.prog 184 [.agg (Job.avs a0)] (.bool r) := by
 unfold i_Job_contentsOk at h
 refine ac_fn mixed Tryz.func184 rfl rfl rfl (by kernel_rfl) (by kernel_rfl) ?_
 try simp only [go_sem]
 refine cond_i (fun hb1 => ?_) (fun hb1 => ?_)
 ·replace h := ifT (c := (decide (a0.state = 1))) hb1 h
  try simp only [go_sem]
  replace h := bindE h
  obtain ⟨v3002, hv3002, h⟩ := h
  refine call_i (i_ValidSchedule_ok _ _ hv3002) ?_
  try simp only [go_sem]
  refine cond_i (fun hb2 => ?_) (fun hb2 => ?_)
  ·replace h := ifT (c := v3002) hb2 h
   try simp only [go_sem]
   replace h := bindE h
   obtain ⟨v3006, hv3006, h⟩ := h
   refine call_i (i_ValidTemplates_ok _ _ hv3006) ?_
   try simp only [go_sem]
   refine cond_i (fun hb3 => ?_) (fun hb3 => ?_)
   ·replace h := ifT (c := v3006) hb3 h
    try simp only [go_sem]
    replace h := bindE h
    obtain ⟨v3011, hv3011, h⟩ := h
    refine call_i (i_ValidNet_ok _ _ hv3011) ?_
    try simp only [go_sem]
    refine seq_go ?_
    try simp only [go_sem]
    cases h
    simp only [go_sem]
   ·replace h := ifF (c := v3006) hb3 h
    try simp only [go_sem]
    refine seq_go ?_
    try simp only [go_sem]
    cases h
    simp only [go_sem]
  ·replace h := ifF (c := v3002) hb2 h
   try simp only [go_sem]
   refine seq_go ?_
   try simp only [go_sem]
   cases h
   simp only [go_sem]
 ·replace h := ifF (c := (decide (a0.state = 1))) hb1 h
  try simp only [go_sem]
  refine seq_go ?_
  try simp only [go_sem]
  refine cond_i (fun hb4 => ?_) (fun hb4 => ?_)
  ·replace h := ifT (c := (decide (0 < (IntKind.i64.wrap (((List.length a0.schedule : Nat) : Int) + ((List.length a0.book : Nat) : Int)))))) hb4 h
   try simp only [go_sem]
   cases h
   simp only [go_sem]
  ·replace h := ifF (c := (decide (0 < (IntKind.i64.wrap (((List.length a0.schedule : Nat) : Int) + ((List.length a0.book : Nat) : Int)))))) hb4 h
   try simp only [go_sem]
   refine seq_go ?_
   try simp only [go_sem]
   refine cond_i (fun hb5 => ?_) (fun hb5 => ?_)
   ·replace h := ifT (c := (decide (a0.state = 2))) hb5 h
    try simp only [go_sem]
    replace h := bindE h
    obtain ⟨v7002, hv7002, h⟩ := h
    refine call_i (i_ValidNet_ok _ _ hv7002) ?_
    try simp only [go_sem]
    refine seq_go ?_
    try simp only [go_sem]
    cases h
    simp only [go_sem]
   ·replace h := ifF (c := (decide (a0.state = 2))) hb5 h
    try simp only [go_sem]
    refine seq_go ?_
    try simp only [go_sem]
    replace h := bindE h
    obtain ⟨v8002, hv8002, h⟩ := h
    refine call_i (i_isEmptyNet_ok _ _ hv8002) ?_
    try simp only [go_sem]
    refine seq_go ?_
    try simp only [go_sem]
    cases h
    simp only [go_sem]
theorem i_validJob_j2_ok (a0 : Job) (p1_0 : Bool) (r : Bool) (h : i_validJob_j2 a0 p1_0 = some r) : posF Tryz.prog Tryz.f112 [1, 1, 1, 1, 0, 1] (.bool r) ⟨[(1, .box 1000001500 0), (73, .bool p1_0)], [], [(1000001500, some [.int .i64 a0.id, .int .i64 a0.weight, .int .i64 a0.state, .int .i64 a0.code, .int .i64 a0.left, .int .i64 a0.slices, .ro (List.map i64D a0.counts), .ro (List.map i64D a0.schedule), .ro (List.map Net.ds a0.book), .ro (List.map Agent.ds a0.net.agents)])]⟩ := by
 unfold i_validJob_j2 at h
 refine posF_of rfl rfl ?_
 try simp only [go_sem]
 refine cond_i (fun hb10 => ?_) (fun hb10 => ?_)
 ·replace h := ifT (c := p1_0) hb10 h
  try simp only [go_sem]
  cases h
  simp only [go_sem]
 ·replace h := ifF (c := p1_0) hb10 h
  try simp only [go_sem]
  refine seq_go ?_
  try simp only [go_sem]
  replace h := bindE h
  obtain ⟨v8001, hv8001, h⟩ := h
  refine call_i (i_Job_contentsOk_ok _ _ hv8001) ?_
  try simp only [go_sem]
  refine seq_go ?_
  try simp only [go_sem]
  cases h
  simp only [go_sem]
theorem i_validJob_j1_ok (a0 : Job) (p0_0 : Bool) (r : Bool) (h : i_validJob_j1 a0 p0_0 = some r) : posF Tryz.prog Tryz.f112 [1, 0, 1] (.bool r) ⟨[(1, .box 1000000500 0), (35, .bool p0_0)], [], [(1000000500, some [.int .i64 a0.id, .int .i64 a0.weight, .int .i64 a0.state, .int .i64 a0.code, .int .i64 a0.left, .int .i64 a0.slices, .ro (List.map i64D a0.counts), .ro (List.map i64D a0.schedule), .ro (List.map Net.ds a0.book), .ro (List.map Agent.ds a0.net.agents)])]⟩ := by
 unfold i_validJob_j1 at h
 refine posF_of rfl rfl ?_
 try simp only [go_sem]
 refine cond_i (fun hb6 => ?_) (fun hb6 => ?_)
 ·replace h := ifT (c := p0_0) hb6 h
  try simp only [go_sem]
  cases h
  simp only [go_sem]
 ·replace h := ifF (c := p0_0) hb6 h
  try simp only [go_sem]
  refine seq_go ?_
  try simp only [go_sem]
  replace h := bindE h
  obtain ⟨v4002, hv4002, h⟩ := h
  refine call_i (i_TotalCounts_ok _ _ hv4002) ?_
  try simp only [go_sem]
  refine seq_go ?_
  try simp only [go_sem]
  replace h := bindE h
  obtain ⟨v5004, hv5004, h⟩ := h
  refine call_i (i_truth_ok _ _ hv5004) ?_
  try simp only [go_sem]
  refine seq_go ?_
  try simp only [go_sem]
  refine cond_i (fun hb7 => ?_) (fun hb7 => ?_)
  ·replace h := ifT (c := (decide (4000 < (IntKind.i64.wrap (v4002 + a0.left))))) hb7 h
   try simp only [go_sem]
   have hj := posF_to rfl rfl (i_validJob_j2_ok a0 true _ h)
   refine seq_to hj (.one ⟨_, .done _, [], [(1000001500, 1000000500)], ?_⟩)
   clear hj
   try simp only [go_sem]
  ·replace h := ifF (c := (decide (4000 < (IntKind.i64.wrap (v4002 + a0.left))))) hb7 h
   try simp only [go_sem]
   replace h := bindE h
   obtain ⟨v6010, hv6010, h⟩ := h
   refine call_i (i_atMost_ok _ _ _ hv6010) ?_
   try simp only [go_sem]
   refine cond_i (fun hb8 => ?_) (fun hb8 => ?_)
   ·replace h := ifT (c := (!v6010)) hb8 h
    try simp only [go_sem]
    have hj := posF_to rfl rfl (i_validJob_j2_ok a0 true _ h)
    refine seq_to hj (.one ⟨_, .done _, [], [(1000001500, 1000000500)], ?_⟩)
    clear hj
    try simp only [go_sem]
   ·replace h := ifF (c := (!v6010)) hb8 h
    try simp only [go_sem]
    replace h := bindE h
    obtain ⟨v6017, hv6017, h⟩ := h
    refine call_i (i_atMost_ok _ _ _ hv6017) ?_
    try simp only [go_sem]
    refine cond_i (fun hb9 => ?_) (fun hb9 => ?_)
    ·replace h := ifT (c := (!v6017)) hb9 h
     try simp only [go_sem]
     have hj := posF_to rfl rfl (i_validJob_j2_ok a0 true _ h)
     refine seq_to hj (.one ⟨_, .done _, [], [(1000001500, 1000000500)], ?_⟩)
     clear hj
     try simp only [go_sem]
    ·replace h := ifF (c := (!v6017)) hb9 h
     try simp only [go_sem]
     have hj := posF_to rfl rfl (i_validJob_j2_ok a0 (!((decide (a0.code = 0)) == (!decide (a0.state = 3)))) _ h)
     refine seq_to hj (.one ⟨_, .done _, [], [(1000001500, 1000000500)], ?_⟩)
     clear hj
     try simp only [go_sem]
theorem i_validJob_ok (a0 : Job) (r : Bool) (h : i_validJob a0 = some r) : AC Tryz.prog 112 [.agg (Job.avs a0)] (.bool r) := by
 unfold i_validJob at h
 refine ac_fn mixed Tryz.func112 rfl rfl rfl (by kernel_rfl) (by kernel_rfl) ?_
 try simp only [go_sem]
 refine cond_i (fun hb1 => ?_) (fun hb1 => ?_)
 ·replace h := ifT (c := (decide (a0.weight < 1))) hb1 h
  try simp only [go_sem]
  have hj := posF_to rfl rfl (i_validJob_j1_ok a0 true _ h)
  refine seq_to hj (.one ⟨_, .done _, [], [(1000000500, 1000)], ?_⟩)
  clear hj
  try simp only [go_sem]
 ·replace h := ifF (c := (decide (a0.weight < 1))) hb1 h
  try simp only [go_sem]
  refine cond_i (fun hb2 => ?_) (fun hb2 => ?_)
  ·replace h := ifT (c := (decide (4 < a0.weight))) hb2 h
   try simp only [go_sem]
   have hj := posF_to rfl rfl (i_validJob_j1_ok a0 true _ h)
   refine seq_to hj (.one ⟨_, .done _, [], [(1000000500, 1000)], ?_⟩)
   clear hj
   try simp only [go_sem]
  ·replace h := ifF (c := (decide (4 < a0.weight))) hb2 h
   try simp only [go_sem]
   refine cond_i (fun hb3 => ?_) (fun hb3 => ?_)
   ·replace h := ifT (c := (decide (a0.state < 1))) hb3 h
    try simp only [go_sem]
    have hj := posF_to rfl rfl (i_validJob_j1_ok a0 true _ h)
    refine seq_to hj (.one ⟨_, .done _, [], [(1000000500, 1000)], ?_⟩)
    clear hj
    try simp only [go_sem]
   ·replace h := ifF (c := (decide (a0.state < 1))) hb3 h
    try simp only [go_sem]
    refine cond_i (fun hb4 => ?_) (fun hb4 => ?_)
    ·replace h := ifT (c := (decide (4 < a0.state))) hb4 h
     try simp only [go_sem]
     have hj := posF_to rfl rfl (i_validJob_j1_ok a0 true _ h)
     refine seq_to hj (.one ⟨_, .done _, [], [(1000000500, 1000)], ?_⟩)
     clear hj
     try simp only [go_sem]
    ·replace h := ifF (c := (decide (4 < a0.state))) hb4 h
     try simp only [go_sem]
     replace h := bindE h
     obtain ⟨v2022, hv2022, h⟩ := h
     refine call_i (i_atMost_ok _ _ _ hv2022) ?_
     try simp only [go_sem]
     refine cond_i (fun hb5 => ?_) (fun hb5 => ?_)
     ·replace h := ifT (c := (!v2022)) hb5 h
      try simp only [go_sem]
      have hj := posF_to rfl rfl (i_validJob_j1_ok a0 true _ h)
      refine seq_to hj (.one ⟨_, .done _, [], [(1000000500, 1000)], ?_⟩)
      clear hj
      try simp only [go_sem]
     ·replace h := ifF (c := (!v2022)) hb5 h
      try simp only [go_sem]
      replace h := bindE h
      obtain ⟨v2028, hv2028, h⟩ := h
      refine call_i (i_ValidCounts_ok _ _ hv2028) ?_
      try simp only [go_sem]
      have hj := posF_to rfl rfl (i_validJob_j1_ok a0 (!v2028) _ h)
      refine seq_to hj (.one ⟨_, .done _, [], [(1000000500, 1000)], ?_⟩)
      clear hj
      try simp only [go_sem]
theorem i_ValidQueue_l8_all (n : Nat) : (∀ (a0 : Queue) (p3_0 : Int) (r : Bool), i_ValidQueue_l8 n a0 p3_0 = some r → posF Tryz.prog Tryz.f64 [1, 1, 1, 0, 1, 0] (.bool r) ⟨[(1, .box 1000003500 0), (40, .ro (List.map Job.ds a0.jobs)), (41, .int .i64 ((List.length a0.jobs : Nat) : Int)), (42, .int .i64 p3_0)], [], [(1000003500, some [.int .i64 a0.quantum, .int .i64 a0.nextId, .int .i64 a0.turn, .ro (List.map Job.ds a0.jobs)])]⟩) ∧
    (∀ (a0 : Queue) (p3_0 : Int) (p4_0 : Bool) (r : Bool), i_ValidQueue_j9 n a0 p3_0 p4_0 = some r → posF Tryz.prog Tryz.f64 [1, 1, 1, 0, 1, 0, 0, 1, 1, 0, 0, 1, 1] (.bool r) ⟨[(1, .box 1000004500 0), (40, .ro (List.map Job.ds a0.jobs)), (41, .int .i64 ((List.length a0.jobs : Nat) : Int)), (42, .int .i64 p3_0), (77, .bool p4_0)], [], [(1000004500, some [.int .i64 a0.quantum, .int .i64 a0.nextId, .int .i64 a0.turn, .ro (List.map Job.ds a0.jobs)])]⟩) := by
 induction n with
 | zero => exact ⟨(fun _ _ _ h => by rw [i_ValidQueue_l8] at h; cases h), (fun _ _ _ _ h => by rw [i_ValidQueue_j9] at h; cases h)⟩
 | succ n ih =>
  obtain ⟨ih0, ih1⟩ := ih
  refine ⟨?_, ?_⟩
  ·intro a0 p3_0 r h
   rw [i_ValidQueue_l8] at h
   refine posF_of rfl rfl ?_
   try simp only [go_sem]
   refine loop_i ?_
   try simp only [go_sem]
   refine cond_i (fun hb7 => ?_) (fun hb7 => ?_)
   ·replace h := ifT (c := (decide (p3_0 < ((List.length a0.jobs : Nat) : Int)))) hb7 h
    try simp only [go_sem]
    refine seq_go ?_
    try simp only [go_sem]
    replace h := bindE h
    obtain ⟨v8001, hv8001, h⟩ := h
    refine idx_m hv8001 (Job.ds_len _) ?_
    try simp only [go_sem]
    refine draw_i [] .fin (by kernel_rfl) ?_
    try simp only [go_sem]
    refine cond_i (fun hb8 => ?_) (fun hb8 => ?_)
    ·replace h := ifT (c := (decide (v8001.id < 1))) hb8 h
     try simp only [go_sem]
     have hj := posF_to rfl rfl (ih1 a0 p3_0 true _ h)
     refine seq_to hj (.one ⟨_, .done _, [], [(1000004500, 1000003500)], ?_⟩)
     clear hj
     try simp only [go_sem]
    ·replace h := ifF (c := (decide (v8001.id < 1))) hb8 h
     try simp only [go_sem]
     refine cond_i (fun hb9 => ?_) (fun hb9 => ?_)
     ·replace h := ifT (c := (decide (a0.nextId ≤ v8001.id))) hb9 h
      try simp only [go_sem]
      have hj := posF_to rfl rfl (ih1 a0 p3_0 true _ h)
      refine seq_to hj (.one ⟨_, .done _, [], [(1000004500, 1000003500)], ?_⟩)
      clear hj
      try simp only [go_sem]
     ·replace h := ifF (c := (decide (a0.nextId ≤ v8001.id))) hb9 h
      try simp only [go_sem]
      refine cond_i (fun hb10 => ?_) (fun hb10 => ?_)
      ·replace h := ifT (c := (decide (0 < p3_0))) hb10 h
       try simp only [go_sem]
       replace h := bindE h
       obtain ⟨v9018, hv9018, h⟩ := h
       refine idx_m hv9018 (Job.ds_len _) ?_
       try simp only [go_sem]
       refine cond_i (fun hb11 => ?_) (fun hb11 => ?_)
       ·replace h := ifT (c := (decide (v8001.id ≤ v9018.id))) hb11 h
        try simp only [go_sem]
        have hj := posF_to rfl rfl (ih1 a0 p3_0 true _ h)
        refine seq_to hj (.one ⟨_, .done _, [], [(1000004500, 1000003500)], ?_⟩)
        clear hj
        try simp only [go_sem]
       ·replace h := ifF (c := (decide (v8001.id ≤ v9018.id))) hb11 h
        try simp only [go_sem]
        replace h := bindE h
        obtain ⟨v9028, hv9028, h⟩ := h
        refine call_i (i_validJob_ok _ _ hv9028) ?_
        try simp only [go_sem]
        have hj := posF_to rfl rfl (ih1 a0 p3_0 (!v9028) _ h)
        refine seq_to hj (.one ⟨_, .done _, [], [(1000004500, 1000003500)], ?_⟩)
        clear hj
        try simp only [go_sem]
      ·replace h := ifF (c := (decide (0 < p3_0))) hb10 h
       try simp only [go_sem]
       replace h := bindE h
       obtain ⟨v9028, hv9028, h⟩ := h
       refine call_i (i_validJob_ok _ _ hv9028) ?_
       try simp only [go_sem]
       have hj := posF_to rfl rfl (ih1 a0 p3_0 (!v9028) _ h)
       refine seq_to hj (.one ⟨_, .done _, [], [(1000004500, 1000003500)], ?_⟩)
       clear hj
       try simp only [go_sem]
   ·replace h := ifF (c := (decide (p3_0 < ((List.length a0.jobs : Nat) : Int)))) hb7 h
    try simp only [go_sem]
    refine seq_go ?_
    try simp only [go_sem]
    cases h
    simp only [go_sem]
  ·intro a0 p3_0 p4_0 r h
   rw [i_ValidQueue_j9] at h
   refine posF_of rfl rfl ?_
   try simp only [go_sem]
   refine cond_i (fun hb12 => ?_) (fun hb12 => ?_)
   ·replace h := ifT (c := p4_0) hb12 h
    try simp only [go_sem]
    cases h
    simp only [go_sem]
   ·replace h := ifF (c := p4_0) hb12 h
    try simp only [go_sem]
    refine seq_go ?_
    try simp only [go_sem]
    have hj := posF_to rfl rfl (ih0 a0 (IntKind.i64.wrap (p3_0 + 1)) _ h)
    refine lp_to hj (.one ⟨_, .done _, [], [(1000003500, 1000004500)], ?_⟩)
    clear hj
    try simp only [go_sem]
theorem i_ValidQueue_l8_ok (n : Nat) : (∀ (a0 : Queue) (p3_0 : Int) (r : Bool), i_ValidQueue_l8 n a0 p3_0 = some r → posF Tryz.prog Tryz.f64 [1, 1, 1, 0, 1, 0] (.bool r) ⟨[(1, .box 1000003500 0), (40, .ro (List.map Job.ds a0.jobs)), (41, .int .i64 ((List.length a0.jobs : Nat) : Int)), (42, .int .i64 p3_0)], [], [(1000003500, some [.int .i64 a0.quantum, .int .i64 a0.nextId, .int .i64 a0.turn, .ro (List.map Job.ds a0.jobs)])]⟩) := (i_ValidQueue_l8_all n).1
theorem i_ValidQueue_j9_ok (n : Nat) : (∀ (a0 : Queue) (p3_0 : Int) (p4_0 : Bool) (r : Bool), i_ValidQueue_j9 n a0 p3_0 p4_0 = some r → posF Tryz.prog Tryz.f64 [1, 1, 1, 0, 1, 0, 0, 1, 1, 0, 0, 1, 1] (.bool r) ⟨[(1, .box 1000004500 0), (40, .ro (List.map Job.ds a0.jobs)), (41, .int .i64 ((List.length a0.jobs : Nat) : Int)), (42, .int .i64 p3_0), (77, .bool p4_0)], [], [(1000004500, some [.int .i64 a0.quantum, .int .i64 a0.nextId, .int .i64 a0.turn, .ro (List.map Job.ds a0.jobs)])]⟩) := (i_ValidQueue_l8_all n).2
theorem i_ValidQueue_j1_ok (a0 : Queue) (p0_0 : Bool) (r : Bool) (h : i_ValidQueue_j1 a0 p0_0 = some r) : posF Tryz.prog Tryz.f64 [1, 0, 1] (.bool r) ⟨[(1, .box 1000000500 0), (28, .bool p0_0)], [], [(1000000500, some [.int .i64 a0.quantum, .int .i64 a0.nextId, .int .i64 a0.turn, .ro (List.map Job.ds a0.jobs)])]⟩ := by
 unfold i_ValidQueue_j1 at h
 refine posF_of rfl rfl ?_
 try simp only [go_sem]
 refine cond_i (fun hb5 => ?_) (fun hb5 => ?_)
 ·replace h := ifT (c := p0_0) hb5 h
  try simp only [go_sem]
  cases h
  simp only [go_sem]
 ·replace h := ifF (c := p0_0) hb5 h
  try simp only [go_sem]
  refine seq_go ?_
  try simp only [go_sem]
  replace h := bindE h
  obtain ⟨v4008, hv4008, h⟩ := h
  refine call_i (i_atMost_ok _ _ _ hv4008) ?_
  try simp only [go_sem]
  refine seq_go ?_
  try simp only [go_sem]
  refine cond_i (fun hb6 => ?_) (fun hb6 => ?_)
  ·replace h := ifT (c := (!v4008)) hb6 h
   try simp only [go_sem]
   cases h
   simp only [go_sem]
  ·replace h := ifF (c := (!v4008)) hb6 h
   try simp only [go_sem]
   refine seq_go ?_
   try simp only [go_sem]
   have hj := posF_to rfl rfl (i_ValidQueue_l8_ok fuel a0 0 _ h)
   refine loop_to hj (.one ⟨_, .done _, [], [(1000003500, 1000000500)], ?_⟩)
   clear hj
   try simp only [go_sem]
theorem i_ValidQueue_ok (a0 : Queue) (r : Bool) (h : i_ValidQueue a0 = some r) : AC Tryz.prog 64 [.agg (Queue.avs a0)] (.bool r) := by
 unfold i_ValidQueue at h
 refine ac_fn mixed Tryz.func64 rfl rfl rfl (by kernel_rfl) (by kernel_rfl) ?_
 try simp only [go_sem]
 refine cond_i (fun hb1 => ?_) (fun hb1 => ?_)
 ·replace h := ifT (c := (decide (a0.quantum < 1))) hb1 h
  try simp only [go_sem]
  have hj := posF_to rfl rfl (i_ValidQueue_j1_ok a0 true _ h)
  refine seq_to hj (.one ⟨_, .done _, [], [(1000000500, 1000)], ?_⟩)
  clear hj
  try simp only [go_sem]
 ·replace h := ifF (c := (decide (a0.quantum < 1))) hb1 h
  try simp only [go_sem]
  refine cond_i (fun hb2 => ?_) (fun hb2 => ?_)
  ·replace h := ifT (c := (decide (50 < a0.quantum))) hb2 h
   try simp only [go_sem]
   have hj := posF_to rfl rfl (i_ValidQueue_j1_ok a0 true _ h)
   refine seq_to hj (.one ⟨_, .done _, [], [(1000000500, 1000)], ?_⟩)
   clear hj
   try simp only [go_sem]
  ·replace h := ifF (c := (decide (50 < a0.quantum))) hb2 h
   try simp only [go_sem]
   refine cond_i (fun hb3 => ?_) (fun hb3 => ?_)
   ·replace h := ifT (c := (decide (a0.nextId < 1))) hb3 h
    try simp only [go_sem]
    have hj := posF_to rfl rfl (i_ValidQueue_j1_ok a0 true _ h)
    refine seq_to hj (.one ⟨_, .done _, [], [(1000000500, 1000)], ?_⟩)
    clear hj
    try simp only [go_sem]
   ·replace h := ifF (c := (decide (a0.nextId < 1))) hb3 h
    try simp only [go_sem]
    refine cond_i (fun hb4 => ?_) (fun hb4 => ?_)
    ·replace h := ifT (c := (decide (1000000000 < a0.nextId))) hb4 h
     try simp only [go_sem]
     have hj := posF_to rfl rfl (i_ValidQueue_j1_ok a0 true _ h)
     refine seq_to hj (.one ⟨_, .done _, [], [(1000000500, 1000)], ?_⟩)
     clear hj
     try simp only [go_sem]
    ·replace h := ifF (c := (decide (1000000000 < a0.nextId))) hb4 h
     try simp only [go_sem]
     have hj := posF_to rfl rfl (i_ValidQueue_j1_ok a0 (decide (6 < ((List.length a0.jobs : Nat) : Int))) _ h)
     refine seq_to hj (.one ⟨_, .done _, [], [(1000000500, 1000)], ?_⟩)
     clear hj
     try simp only [go_sem]
theorem s_l00In_ok (a0 : Int) (a1 : Int) (a2 : Int) (r : Bool) (h : s_l00In a0 a1 a2 = some r) : AC Tryz.prog 59 [.int .i64 a0, .int .i64 a1, .int .i64 a2] (.bool r) := by
 unfold s_l00In at h
 refine ac_fn mixed Tryz.func59 rfl rfl rfl (by kernel_rfl) (by kernel_rfl) ?_
 try simp only [go_sem]
 refine cond_i (fun hb1 => ?_) (fun hb1 => ?_)
 ·replace h := ifT (c := (decide (a1 ≤ a0))) hb1 h
  try simp only [go_sem]
  refine seq_go ?_
  try simp only [go_sem]
  cases h
  simp only [go_sem]
 ·replace h := ifF (c := (decide (a1 ≤ a0))) hb1 h
  try simp only [go_sem]
  refine seq_go ?_
  try simp only [go_sem]
  cases h
  simp only [go_sem]
theorem s_l00Max_ok (a0 : Int) (a1 : Int) (r : Int) (h : s_l00Max a0 a1 = some r) : AC Tryz.prog 105 [.int .i64 a0, .int .i64 a1] (.int .i64 r) := by
 unfold s_l00Max at h
 refine ac_fn mixed Tryz.func105 rfl rfl rfl (by kernel_rfl) (by kernel_rfl) ?_
 try simp only [go_sem]
 refine cond_i (fun hb1 => ?_) (fun hb1 => ?_)
 ·replace h := ifT (c := (decide (a1 < a0))) hb1 h
  try simp only [go_sem]
  cases h
  simp only [go_sem]
 ·replace h := ifF (c := (decide (a1 < a0))) hb1 h
  try simp only [go_sem]
  refine seq_go ?_
  try simp only [go_sem]
  cases h
  simp only [go_sem]
theorem s_l11Fields_ok (a0 : Agent) (r : Int) (h : s_l11Fields a0 = some r) : AC Tryz.prog 165 [.rop (Agent.avs a0) 0] (.int .i64 r) := by
 unfold s_l11Fields at h
 refine ac_fn mixed Tryz.func165 rfl rfl rfl (by kernel_rfl) (by kernel_rfl) ?_
 try simp only [go_sem]
 refine cond_i (fun hb1 => ?_) (fun hb1 => ?_)
 ·replace h := ifT (c := (decide (a0.kind = 9))) hb1 h
  try simp only [go_sem]
  cases h
  simp only [go_sem]
 ·replace h := ifF (c := (decide (a0.kind = 9))) hb1 h
  try simp only [go_sem]
  refine seq_go ?_
  try simp only [go_sem]
  cases h
  simp only [go_sem]
theorem s_PortsOf_j3_ok (p2_0 : Bool) (r : Int) (h : s_PortsOf_j3 p2_0 = some r) : posF Tryz.prog Tryz.f228 [1, 1, 1, 0, 1, 0, 1, 1, 1, 1, 1] (.int .i64 r) ⟨[(23, .bool p2_0)], [], []⟩ := by
 unfold s_PortsOf_j3 at h
 refine posF_of rfl rfl ?_
 try simp only [go_sem]
 refine cond_i (fun hb14 => ?_) (fun hb14 => ?_)
 ·replace h := ifT (c := p2_0) hb14 h
  try simp only [go_sem]
  cases h
  simp only [go_sem]
 ·replace h := ifF (c := p2_0) hb14 h
  try simp only [go_sem]
  refine seq_go ?_
  try simp only [go_sem]
  cases h
  simp only [go_sem]
theorem s_PortsOf_j2_ok (a0 : Int) (p1_0 : Bool) (r : Int) (h : s_PortsOf_j2 a0 p1_0 = some r) : posF Tryz.prog Tryz.f228 [1, 1, 1, 0, 1, 0, 1, 1, 1] (.int .i64 r) ⟨[(13, .int .i64 a0), (19, .bool p1_0)], [], []⟩ := by
 unfold s_PortsOf_j2 at h
 refine posF_of rfl rfl ?_
 try simp only [go_sem]
 refine cond_i (fun hb10 => ?_) (fun hb10 => ?_)
 ·replace h := ifT (c := p1_0) hb10 h
  try simp only [go_sem]
  cases h
  simp only [go_sem]
 ·replace h := ifF (c := p1_0) hb10 h
  try simp only [go_sem]
  refine cond_i (fun hb11 => ?_) (fun hb11 => ?_)
  ·replace h := ifT (c := (decide (a0 = 2))) hb11 h
   try simp only [go_sem]
   have hj := posF_to rfl rfl (s_PortsOf_j3_ok (decide (a0 = 2)) _ h)
   refine seq_to hj (.one ⟨_, .done _, [], [], ?_⟩)
   clear hj
   try simp only [go_sem]
  ·replace h := ifF (c := (decide (a0 = 2))) hb11 h
   try simp only [go_sem]
   refine cond_i (fun hb12 => ?_) (fun hb12 => ?_)
   ·replace h := ifT (c := (decide (a0 = 3))) hb12 h
    try simp only [go_sem]
    have hj := posF_to rfl rfl (s_PortsOf_j3_ok (decide (a0 = 3)) _ h)
    refine seq_to hj (.one ⟨_, .done _, [], [], ?_⟩)
    clear hj
    try simp only [go_sem]
   ·replace h := ifF (c := (decide (a0 = 3))) hb12 h
    try simp only [go_sem]
    refine cond_i (fun hb13 => ?_) (fun hb13 => ?_)
    ·replace h := ifT (c := (decide (a0 = 4))) hb13 h
     try simp only [go_sem]
     have hj := posF_to rfl rfl (s_PortsOf_j3_ok (decide (a0 = 4)) _ h)
     refine seq_to hj (.one ⟨_, .done _, [], [], ?_⟩)
     clear hj
     try simp only [go_sem]
    ·replace h := ifF (c := (decide (a0 = 4))) hb13 h
     try simp only [go_sem]
     have hj := posF_to rfl rfl (s_PortsOf_j3_ok (decide (a0 = 7)) _ h)
     refine seq_to hj (.one ⟨_, .done _, [], [], ?_⟩)
     clear hj
     try simp only [go_sem]
theorem s_PortsOf_j1_ok (a0 : Int) (p0_0 : Bool) (r : Int) (h : s_PortsOf_j1 a0 p0_0 = some r) : posF Tryz.prog Tryz.f228 [1, 1, 1, 0, 1, 0, 1] (.int .i64 r) ⟨[(13, .int .i64 a0), (14, .bool p0_0)], [], []⟩ := by
 unfold s_PortsOf_j1 at h
 refine posF_of rfl rfl ?_
 try simp only [go_sem]
 refine cond_i (fun hb7 => ?_) (fun hb7 => ?_)
 ·replace h := ifT (c := p0_0) hb7 h
  try simp only [go_sem]
  cases h
  simp only [go_sem]
 ·replace h := ifF (c := p0_0) hb7 h
  try simp only [go_sem]
  refine cond_i (fun hb8 => ?_) (fun hb8 => ?_)
  ·replace h := ifT (c := (decide (a0 = 8))) hb8 h
   try simp only [go_sem]
   have hj := posF_to rfl rfl (s_PortsOf_j2_ok a0 (decide (a0 = 8)) _ h)
   refine seq_to hj (.one ⟨_, .done _, [], [], ?_⟩)
   clear hj
   try simp only [go_sem]
  ·replace h := ifF (c := (decide (a0 = 8))) hb8 h
   try simp only [go_sem]
   refine cond_i (fun hb9 => ?_) (fun hb9 => ?_)
   ·replace h := ifT (c := (decide (a0 = 10))) hb9 h
    try simp only [go_sem]
    have hj := posF_to rfl rfl (s_PortsOf_j2_ok a0 (decide (a0 = 10)) _ h)
    refine seq_to hj (.one ⟨_, .done _, [], [], ?_⟩)
    clear hj
    try simp only [go_sem]
   ·replace h := ifF (c := (decide (a0 = 10))) hb9 h
    try simp only [go_sem]
    have hj := posF_to rfl rfl (s_PortsOf_j2_ok a0 (decide (a0 = 11)) _ h)
    refine seq_to hj (.one ⟨_, .done _, [], [], ?_⟩)
    clear hj
    try simp only [go_sem]
theorem s_PortsOf_ok (a0 : Int) (a1 : Int) (r : Int) (h : s_PortsOf a0 a1 = some r) : AC Tryz.prog 228 [.int .i64 a0, .int .i64 a1] (.int .i64 r) := by
 unfold s_PortsOf at h
 refine ac_fn mixed Tryz.func228 rfl rfl rfl (by kernel_rfl) (by kernel_rfl) ?_
 try simp only [go_sem]
 refine cond_i (fun hb1 => ?_) (fun hb1 => ?_)
 ·replace h := ifT (c := (decide (a0 = 9))) hb1 h
  try simp only [go_sem]
  replace h := bindE h
  obtain ⟨v3001, hv3001, h⟩ := h
  refine call_i (s_l00In_ok _ _ _ _ hv3001) ?_
  try simp only [go_sem]
  refine seq_go ?_
  try simp only [go_sem]
  refine cond_i (fun hb2 => ?_) (fun hb2 => ?_)
  ·replace h := ifT (c := v3001) hb2 h
   try simp only [go_sem]
   cases h
   simp only [go_sem]
  ·replace h := ifF (c := v3001) hb2 h
   try simp only [go_sem]
   refine seq_go ?_
   try simp only [go_sem]
   cases h
   simp only [go_sem]
 ·replace h := ifF (c := (decide (a0 = 9))) hb1 h
  try simp only [go_sem]
  refine seq_go ?_
  try simp only [go_sem]
  refine cond_i (fun hb3 => ?_) (fun hb3 => ?_)
  ·replace h := ifT (c := (!decide (a1 = 0))) hb3 h
   try simp only [go_sem]
   cases h
   simp only [go_sem]
  ·replace h := ifF (c := (!decide (a1 = 0))) hb3 h
   try simp only [go_sem]
   refine seq_go ?_
   try simp only [go_sem]
   refine cond_i (fun hb4 => ?_) (fun hb4 => ?_)
   ·replace h := ifT (c := (decide (a0 = 1))) hb4 h
    try simp only [go_sem]
    have hj := posF_to rfl rfl (s_PortsOf_j1_ok a0 (decide (a0 = 1)) _ h)
    refine seq_to hj (.one ⟨_, .done _, [], [], ?_⟩)
    clear hj
    try simp only [go_sem]
   ·replace h := ifF (c := (decide (a0 = 1))) hb4 h
    try simp only [go_sem]
    refine cond_i (fun hb5 => ?_) (fun hb5 => ?_)
    ·replace h := ifT (c := (decide (a0 = 5))) hb5 h
     try simp only [go_sem]
     have hj := posF_to rfl rfl (s_PortsOf_j1_ok a0 (decide (a0 = 5)) _ h)
     refine seq_to hj (.one ⟨_, .done _, [], [], ?_⟩)
     clear hj
     try simp only [go_sem]
    ·replace h := ifF (c := (decide (a0 = 5))) hb5 h
     try simp only [go_sem]
     refine cond_i (fun hb6 => ?_) (fun hb6 => ?_)
     ·replace h := ifT (c := (decide (a0 = 6))) hb6 h
      try simp only [go_sem]
      have hj := posF_to rfl rfl (s_PortsOf_j1_ok a0 (decide (a0 = 6)) _ h)
      refine seq_to hj (.one ⟨_, .done _, [], [], ?_⟩)
      clear hj
      try simp only [go_sem]
     ·replace h := ifF (c := (decide (a0 = 6))) hb6 h
      try simp only [go_sem]
      have hj := posF_to rfl rfl (s_PortsOf_j1_ok a0 (decide (a0 = 12)) _ h)
      refine seq_to hj (.one ⟨_, .done _, [], [], ?_⟩)
      clear hj
      try simp only [go_sem]
theorem s_HasLevel_j1_ok (p0_0 : Bool) (r : Bool) (h : s_HasLevel_j1 p0_0 = some r) : posF Tryz.prog Tryz.f195 [1, 0, 1, 0, 1] (.bool r) ⟨[(4, .bool p0_0)], [], []⟩ := by
 unfold s_HasLevel_j1 at h
 refine posF_of rfl rfl ?_
 try simp only [go_sem]
 refine cond_i (fun hb9 => ?_) (fun hb9 => ?_)
 ·replace h := ifT (c := p0_0) hb9 h
  try simp only [go_sem]
  cases h
  simp only [go_sem]
 ·replace h := ifF (c := p0_0) hb9 h
  try simp only [go_sem]
  refine seq_go ?_
  try simp only [go_sem]
  cases h
  simp only [go_sem]
theorem s_HasLevel_ok (a0 : Int) (r : Bool) (h : s_HasLevel a0 = some r) : AC Tryz.prog 195 [.int .i64 a0] (.bool r) := by
 unfold s_HasLevel at h
 refine ac_fn mixed Tryz.func195 rfl rfl rfl (by kernel_rfl) (by kernel_rfl) ?_
 try simp only [go_sem]
 refine cond_i (fun hb1 => ?_) (fun hb1 => ?_)
 ·replace h := ifT (c := (decide (a0 = 2))) hb1 h
  try simp only [go_sem]
  have hj := posF_to rfl rfl (s_HasLevel_j1_ok (decide (a0 = 2)) _ h)
  refine seq_to hj (.one ⟨_, .done _, [], [], ?_⟩)
  clear hj
  try simp only [go_sem]
 ·replace h := ifF (c := (decide (a0 = 2))) hb1 h
  try simp only [go_sem]
  refine cond_i (fun hb2 => ?_) (fun hb2 => ?_)
  ·replace h := ifT (c := (decide (a0 = 3))) hb2 h
   try simp only [go_sem]
   have hj := posF_to rfl rfl (s_HasLevel_j1_ok (decide (a0 = 3)) _ h)
   refine seq_to hj (.one ⟨_, .done _, [], [], ?_⟩)
   clear hj
   try simp only [go_sem]
  ·replace h := ifF (c := (decide (a0 = 3))) hb2 h
   try simp only [go_sem]
   refine cond_i (fun hb3 => ?_) (fun hb3 => ?_)
   ·replace h := ifT (c := (decide (a0 = 4))) hb3 h
    try simp only [go_sem]
    have hj := posF_to rfl rfl (s_HasLevel_j1_ok (decide (a0 = 4)) _ h)
    refine seq_to hj (.one ⟨_, .done _, [], [], ?_⟩)
    clear hj
    try simp only [go_sem]
   ·replace h := ifF (c := (decide (a0 = 4))) hb3 h
    try simp only [go_sem]
    refine cond_i (fun hb4 => ?_) (fun hb4 => ?_)
    ·replace h := ifT (c := (decide (a0 = 7))) hb4 h
     try simp only [go_sem]
     have hj := posF_to rfl rfl (s_HasLevel_j1_ok (decide (a0 = 7)) _ h)
     refine seq_to hj (.one ⟨_, .done _, [], [], ?_⟩)
     clear hj
     try simp only [go_sem]
    ·replace h := ifF (c := (decide (a0 = 7))) hb4 h
     try simp only [go_sem]
     refine cond_i (fun hb5 => ?_) (fun hb5 => ?_)
     ·replace h := ifT (c := (decide (a0 = 8))) hb5 h
      try simp only [go_sem]
      have hj := posF_to rfl rfl (s_HasLevel_j1_ok (decide (a0 = 8)) _ h)
      refine seq_to hj (.one ⟨_, .done _, [], [], ?_⟩)
      clear hj
      try simp only [go_sem]
     ·replace h := ifF (c := (decide (a0 = 8))) hb5 h
      try simp only [go_sem]
      refine cond_i (fun hb6 => ?_) (fun hb6 => ?_)
      ·replace h := ifT (c := (decide (a0 = 9))) hb6 h
       try simp only [go_sem]
       have hj := posF_to rfl rfl (s_HasLevel_j1_ok (decide (a0 = 9)) _ h)
       refine seq_to hj (.one ⟨_, .done _, [], [], ?_⟩)
       clear hj
       try simp only [go_sem]
      ·replace h := ifF (c := (decide (a0 = 9))) hb6 h
       try simp only [go_sem]
       refine cond_i (fun hb7 => ?_) (fun hb7 => ?_)
       ·replace h := ifT (c := (decide (a0 = 10))) hb7 h
        try simp only [go_sem]
        have hj := posF_to rfl rfl (s_HasLevel_j1_ok (decide (a0 = 10)) _ h)
        refine seq_to hj (.one ⟨_, .done _, [], [], ?_⟩)
        clear hj
        try simp only [go_sem]
       ·replace h := ifF (c := (decide (a0 = 10))) hb7 h
        try simp only [go_sem]
        refine cond_i (fun hb8 => ?_) (fun hb8 => ?_)
        ·replace h := ifT (c := (decide (a0 = 11))) hb8 h
         try simp only [go_sem]
         have hj := posF_to rfl rfl (s_HasLevel_j1_ok (decide (a0 = 11)) _ h)
         refine seq_to hj (.one ⟨_, .done _, [], [], ?_⟩)
         clear hj
         try simp only [go_sem]
        ·replace h := ifF (c := (decide (a0 = 11))) hb8 h
         try simp only [go_sem]
         have hj := posF_to rfl rfl (s_HasLevel_j1_ok (decide (a0 = 12)) _ h)
         refine seq_to hj (.one ⟨_, .done _, [], [], ?_⟩)
         clear hj
         try simp only [go_sem]
theorem s_l10Kind_ok (a0 : Int) (r : Bool) (h : s_l10Kind a0 = some r) : AC Tryz.prog 245 [.int .i64 a0] (.bool r) := by
 unfold s_l10Kind at h
 refine ac_fn mixed Tryz.func245 rfl rfl rfl (by kernel_rfl) (by kernel_rfl) ?_
 try simp only [go_sem]
 replace h := bindE h
 obtain ⟨v2001, hv2001, h⟩ := h
 refine call_i (s_l00In_ok _ _ _ _ hv2001) ?_
 try simp only [go_sem]
 refine seq_go ?_
 try simp only [go_sem]
 cases h
 simp only [go_sem]
theorem s_l10Level_ok (a0 : Int) (a1 : Int) (r : Bool) (h : s_l10Level a0 a1 = some r) : AC Tryz.prog 229 [.int .i64 a0, .int .i64 a1] (.bool r) := by
 unfold s_l10Level at h
 refine ac_fn mixed Tryz.func229 rfl rfl rfl (by kernel_rfl) (by kernel_rfl) ?_
 try simp only [go_sem]
 replace h := bindE h
 obtain ⟨v2001, hv2001, h⟩ := h
 refine call_i (s_HasLevel_ok _ _ hv2001) ?_
 try simp only [go_sem]
 refine seq_go ?_
 try simp only [go_sem]
 refine cond_i (fun hb1 => ?_) (fun hb1 => ?_)
 ·replace h := ifT (c := v2001) hb1 h
  try simp only [go_sem]
  replace h := bindE h
  obtain ⟨v3001, hv3001, h⟩ := h
  refine call_i (s_l00In_ok _ _ _ _ hv3001) ?_
  try simp only [go_sem]
  refine seq_go ?_
  try simp only [go_sem]
  cases h
  simp only [go_sem]
 ·replace h := ifF (c := v2001) hb1 h
  try simp only [go_sem]
  refine seq_go ?_
  try simp only [go_sem]
  replace h := bindE h
  obtain ⟨v4001, hv4001, h⟩ := h
  refine call_i (s_l10Kind_ok _ _ hv4001) ?_
  try simp only [go_sem]
  refine cond_i (fun hb2 => ?_) (fun hb2 => ?_)
  ·replace h := ifT (c := v4001) hb2 h
   try simp only [go_sem]
   refine seq_go ?_
   try simp only [go_sem]
   cases h
   simp only [go_sem]
  ·replace h := ifF (c := v4001) hb2 h
   try simp only [go_sem]
   refine seq_go ?_
   try simp only [go_sem]
   cases h
   simp only [go_sem]
theorem s_l11Def_ok (a0 : Int) (r : Bool) (h : s_l11Def a0 = some r) : AC Tryz.prog 246 [.int .i64 a0] (.bool r) := by
 unfold s_l11Def at h
 refine ac_fn mixed Tryz.func246 rfl rfl rfl (by kernel_rfl) (by kernel_rfl) ?_
 try simp only [go_sem]
 replace h := bindE h
 obtain ⟨v2001, hv2001, h⟩ := h
 refine call_i (s_l00In_ok _ _ _ _ hv2001) ?_
 try simp only [go_sem]
 refine seq_go ?_
 try simp only [go_sem]
 cases h
 simp only [go_sem]
theorem s_l11Content_l3_ok (n : Nat) : (∀ (a0 : Agent) (p2_0 : Int) (r : Bool), s_l11Content_l3 n a0 p2_0 = some r → posF Tryz.prog Tryz.f230 [1, 0, 1, 0, 1, 1, 1, 1, 1, 1, 1, 1, 1, 1, 1, 0, 1, 0, 1, 0] (.bool r) ⟨[(0, .rop [.int .i64 a0.kind, .int .i64 a0.level, .int .i64 a0.value, .ro (List.map i64D a0.data), .ro (List.map Port.ds a0.ports)] 0), (3, .int .i64 p2_0)], [], []⟩) := by
 induction n with
 | zero => exact ((fun _ _ _ h => by rw [s_l11Content_l3] at h; cases h))
 | succ n ih =>
  have ih0 := ih
  ·intro a0 p2_0 r h
   rw [s_l11Content_l3] at h
   refine posF_of rfl rfl ?_
   try simp only [go_sem]
   refine loop_i ?_
   try simp only [go_sem]
   refine cond_i (fun hb21 => ?_) (fun hb21 => ?_)
   ·replace h := ifT (c := (decide (p2_0 < ((List.length a0.data : Nat) : Int)))) hb21 h
    try simp only [go_sem]
    refine seq_go ?_
    try simp only [go_sem]
    replace h := bindE h
    obtain ⟨v20005, hv20005, h⟩ := h
    refine idx_m hv20005 rfl ?_
    try simp only [go_sem]
    replace h := bindE h
    obtain ⟨v20007, hv20007, h⟩ := h
    refine call_i (s_l11Def_ok _ _ hv20007) ?_
    try simp only [go_sem]
    refine seq_go ?_
    try simp only [go_sem]
    refine cond_i (fun hb22 => ?_) (fun hb22 => ?_)
    ·replace h := ifT (c := (!v20007)) hb22 h
     try simp only [go_sem]
     cases h
     simp only [go_sem]
    ·replace h := ifF (c := (!v20007)) hb22 h
     try simp only [go_sem]
     refine seq_go ?_
     try simp only [go_sem]
     have hj := posF_to rfl rfl (ih0 a0 (IntKind.i64.wrap (p2_0 + 1)) _ h)
     refine lp_to hj (.one ⟨_, .done _, [], [], ?_⟩)
     clear hj
     try simp only [go_sem]
   ·replace h := ifF (c := (decide (p2_0 < ((List.length a0.data : Nat) : Int)))) hb21 h
    try simp only [go_sem]
    refine seq_go ?_
    try simp only [go_sem]
    cases h
    simp only [go_sem]
theorem s_l11Content_j2_ok (a0 : Agent) (p1_0 : Bool) (r : Bool) (h : s_l11Content_j2 a0 p1_0 = some r) : posF Tryz.prog Tryz.f230 [1, 0, 1, 0, 1, 1, 1, 1, 1, 1, 1, 1, 1, 1, 1, 0, 0, 1] (.bool r) ⟨[(0, .rop [.int .i64 a0.kind, .int .i64 a0.level, .int .i64 a0.value, .ro (List.map i64D a0.data), .ro (List.map Port.ds a0.ports)] 0), (130, .bool p1_0)], [], []⟩ := by
 unfold s_l11Content_j2 at h
 refine posF_of rfl rfl ?_
 try simp only [go_sem]
 refine cond_i (fun hb20 => ?_) (fun hb20 => ?_)
 ·replace h := ifT (c := p1_0) hb20 h
  try simp only [go_sem]
  cases h
  simp only [go_sem]
 ·replace h := ifF (c := p1_0) hb20 h
  try simp only [go_sem]
  refine seq_go ?_
  try simp only [go_sem]
  have hj := posF_to rfl rfl (s_l11Content_l3_ok fuel a0 0 _ h)
  refine loop_to hj (.one ⟨_, .done _, [], [], ?_⟩)
  clear hj
  try simp only [go_sem]
theorem s_l11Content_j1_ok (a0 : Agent) (p0_0 : Bool) (r : Bool) (h : s_l11Content_j1 a0 p0_0 = some r) : posF Tryz.prog Tryz.f230 [1, 0, 1, 0, 1, 1, 1, 1, 1, 1, 1, 1, 1, 1, 1] (.bool r) ⟨[(0, .rop [.int .i64 a0.kind, .int .i64 a0.level, .int .i64 a0.value, .ro (List.map i64D a0.data), .ro (List.map Port.ds a0.ports)] 0), (92, .bool p0_0)], [], []⟩ := by
 unfold s_l11Content_j1 at h
 refine posF_of rfl rfl ?_
 try simp only [go_sem]
 refine cond_i (fun hb13 => ?_) (fun hb13 => ?_)
 ·replace h := ifT (c := p0_0) hb13 h
  try simp only [go_sem]
  refine cond_i (fun hb14 => ?_) (fun hb14 => ?_)
  ·replace h := ifT (c := (!decide (a0.value = 0))) hb14 h
   try simp only [go_sem]
   have hj := posF_to rfl rfl (s_l11Content_j2_ok a0 true _ h)
   refine seq_to hj (.one ⟨_, .done _, [], [], ?_⟩)
   clear hj
   try simp only [go_sem]
  ·replace h := ifF (c := (!decide (a0.value = 0))) hb14 h
   try simp only [go_sem]
   refine cond_i (fun hb15 => ?_) (fun hb15 => ?_)
   ·replace h := ifT (c := (decide (a0.kind = 11))) hb15 h
    try simp only [go_sem]
    refine cond_i (fun hb16 => ?_) (fun hb16 => ?_)
    ·replace h := ifT (c := (!decide (((List.length a0.data : Nat) : Int) = 2))) hb16 h
     try simp only [go_sem]
     have hj := posF_to rfl rfl (s_l11Content_j2_ok a0 true _ h)
     refine seq_to hj (.one ⟨_, .done _, [], [], ?_⟩)
     clear hj
     try simp only [go_sem]
    ·replace h := ifF (c := (!decide (((List.length a0.data : Nat) : Int) = 2))) hb16 h
     try simp only [go_sem]
     refine cond_i (fun hb17 => ?_) (fun hb17 => ?_)
     ·replace h := ifT (c := (decide (a0.kind = 10))) hb17 h
      try simp only [go_sem]
      replace h := bindE h
      obtain ⟨v15032, hv15032, h⟩ := h
      refine call_i (s_l00In_ok _ _ _ _ hv15032) ?_
      try simp only [go_sem]
      have hj := posF_to rfl rfl (s_l11Content_j2_ok a0 (!v15032) _ h)
      refine seq_to hj (.one ⟨_, .done _, [], [], ?_⟩)
      clear hj
      try simp only [go_sem]
     ·replace h := ifF (c := (decide (a0.kind = 10))) hb17 h
      try simp only [go_sem]
      have hj := posF_to rfl rfl (s_l11Content_j2_ok a0 false _ h)
      refine seq_to hj (.one ⟨_, .done _, [], [], ?_⟩)
      clear hj
      try simp only [go_sem]
   ·replace h := ifF (c := (decide (a0.kind = 11))) hb15 h
    try simp only [go_sem]
    refine cond_i (fun hb18 => ?_) (fun hb18 => ?_)
    ·replace h := ifT (c := (decide (a0.kind = 10))) hb18 h
     try simp only [go_sem]
     replace h := bindE h
     obtain ⟨v15032, hv15032, h⟩ := h
     refine call_i (s_l00In_ok _ _ _ _ hv15032) ?_
     try simp only [go_sem]
     have hj := posF_to rfl rfl (s_l11Content_j2_ok a0 (!v15032) _ h)
     refine seq_to hj (.one ⟨_, .done _, [], [], ?_⟩)
     clear hj
     try simp only [go_sem]
    ·replace h := ifF (c := (decide (a0.kind = 10))) hb18 h
     try simp only [go_sem]
     have hj := posF_to rfl rfl (s_l11Content_j2_ok a0 false _ h)
     refine seq_to hj (.one ⟨_, .done _, [], [], ?_⟩)
     clear hj
     try simp only [go_sem]
 ·replace h := ifF (c := p0_0) hb13 h
  try simp only [go_sem]
  refine seq_go ?_
  try simp only [go_sem]
  refine cond_i (fun hb19 => ?_) (fun hb19 => ?_)
  ·replace h := ifT (c := (decide (a0.value = 0))) hb19 h
   try simp only [go_sem]
   refine seq_go ?_
   try simp only [go_sem]
   cases h
   simp only [go_sem]
  ·replace h := ifF (c := (decide (a0.value = 0))) hb19 h
   try simp only [go_sem]
   refine seq_go ?_
   try simp only [go_sem]
   cases h
   simp only [go_sem]
theorem s_l11Content_ok (a0 : Agent) (r : Bool) (h : s_l11Content a0 = some r) : AC Tryz.prog 230 [.rop (Agent.avs a0) 0] (.bool r) := by
 unfold s_l11Content at h
 refine ac_fn mixed Tryz.func230 rfl rfl rfl (by kernel_rfl) (by kernel_rfl) ?_
 try simp only [go_sem]
 refine cond_i (fun hb1 => ?_) (fun hb1 => ?_)
 ·replace h := ifT (c := (decide (a0.kind = 6))) hb1 h
  try simp only [go_sem]
  refine cond_i (fun hb2 => ?_) (fun hb2 => ?_)
  ·replace h := ifT (c := (decide (((List.length a0.data : Nat) : Int) = 0))) hb2 h
   try simp only [go_sem]
   replace h := bindE h
   obtain ⟨v4011, hv4011, h⟩ := h
   refine call_i (s_l00In_ok _ _ _ _ hv4011) ?_
   try simp only [go_sem]
   refine seq_go ?_
   try simp only [go_sem]
   cases h
   simp only [go_sem]
  ·replace h := ifF (c := (decide (((List.length a0.data : Nat) : Int) = 0))) hb2 h
   try simp only [go_sem]
   refine seq_go ?_
   try simp only [go_sem]
   cases h
   simp only [go_sem]
 ·replace h := ifF (c := (decide (a0.kind = 6))) hb1 h
  try simp only [go_sem]
  refine cond_i (fun hb3 => ?_) (fun hb3 => ?_)
  ·replace h := ifT (c := (decide (a0.kind = 7))) hb3 h
   try simp only [go_sem]
   refine cond_i (fun hb4 => ?_) (fun hb4 => ?_)
   ·replace h := ifT (c := (decide (((List.length a0.data : Nat) : Int) = 0))) hb4 h
    try simp only [go_sem]
    replace h := bindE h
    obtain ⟨v6011, hv6011, h⟩ := h
    refine call_i (s_l00In_ok _ _ _ _ hv6011) ?_
    try simp only [go_sem]
    refine seq_go ?_
    try simp only [go_sem]
    cases h
    simp only [go_sem]
   ·replace h := ifF (c := (decide (((List.length a0.data : Nat) : Int) = 0))) hb4 h
    try simp only [go_sem]
    refine seq_go ?_
    try simp only [go_sem]
    cases h
    simp only [go_sem]
  ·replace h := ifF (c := (decide (a0.kind = 7))) hb3 h
   try simp only [go_sem]
   refine cond_i (fun hb5 => ?_) (fun hb5 => ?_)
   ·replace h := ifT (c := (decide (a0.kind = 8))) hb5 h
    try simp only [go_sem]
    refine cond_i (fun hb6 => ?_) (fun hb6 => ?_)
    ·replace h := ifT (c := (decide (((List.length a0.data : Nat) : Int) = 1))) hb6 h
     try simp only [go_sem]
     replace h := bindE h
     obtain ⟨v8011, hv8011, h⟩ := h
     refine call_i (s_l00In_ok _ _ _ _ hv8011) ?_
     try simp only [go_sem]
     refine cond_i (fun hb7 => ?_) (fun hb7 => ?_)
     ·replace h := ifT (c := v8011) hb7 h
      try simp only [go_sem]
      replace h := bindE h
      obtain ⟨v8018, hv8018, h⟩ := h
      refine idx_m hv8018 rfl ?_
      try simp only [go_sem]
      replace h := bindE h
      obtain ⟨v8020, hv8020, h⟩ := h
      refine call_i (s_l00In_ok _ _ _ _ hv8020) ?_
      try simp only [go_sem]
      refine seq_go ?_
      try simp only [go_sem]
      cases h
      simp only [go_sem]
     ·replace h := ifF (c := v8011) hb7 h
      try simp only [go_sem]
      refine seq_go ?_
      try simp only [go_sem]
      cases h
      simp only [go_sem]
    ·replace h := ifF (c := (decide (((List.length a0.data : Nat) : Int) = 1))) hb6 h
     try simp only [go_sem]
     refine seq_go ?_
     try simp only [go_sem]
     cases h
     simp only [go_sem]
   ·replace h := ifF (c := (decide (a0.kind = 8))) hb5 h
    try simp only [go_sem]
    refine cond_i (fun hb8 => ?_) (fun hb8 => ?_)
    ·replace h := ifT (c := (decide (a0.kind = 9))) hb8 h
     try simp only [go_sem]
     refine cond_i (fun hb9 => ?_) (fun hb9 => ?_)
     ·replace h := ifT (c := (decide (((List.length a0.data : Nat) : Int) = 0))) hb9 h
      try simp only [go_sem]
      replace h := bindE h
      obtain ⟨v10011, hv10011, h⟩ := h
      refine call_i (s_l00In_ok _ _ _ _ hv10011) ?_
      try simp only [go_sem]
      refine seq_go ?_
      try simp only [go_sem]
      cases h
      simp only [go_sem]
     ·replace h := ifF (c := (decide (((List.length a0.data : Nat) : Int) = 0))) hb9 h
      try simp only [go_sem]
      refine seq_go ?_
      try simp only [go_sem]
      cases h
      simp only [go_sem]
    ·replace h := ifF (c := (decide (a0.kind = 9))) hb8 h
     try simp only [go_sem]
     refine cond_i (fun hb10 => ?_) (fun hb10 => ?_)
     ·replace h := ifT (c := (decide (a0.kind = 12))) hb10 h
      try simp only [go_sem]
      refine cond_i (fun hb11 => ?_) (fun hb11 => ?_)
      ·replace h := ifT (c := (decide (((List.length a0.data : Nat) : Int) = 0))) hb11 h
       try simp only [go_sem]
       replace h := bindE h
       obtain ⟨v12011, hv12011, h⟩ := h
       refine call_i (s_l11Def_ok _ _ hv12011) ?_
       try simp only [go_sem]
       refine seq_go ?_
       try simp only [go_sem]
       cases h
       simp only [go_sem]
      ·replace h := ifF (c := (decide (((List.length a0.data : Nat) : Int) = 0))) hb11 h
       try simp only [go_sem]
       refine seq_go ?_
       try simp only [go_sem]
       cases h
       simp only [go_sem]
     ·replace h := ifF (c := (decide (a0.kind = 12))) hb10 h
      try simp only [go_sem]
      refine cond_i (fun hb12 => ?_) (fun hb12 => ?_)
      ·replace h := ifT (c := (decide (a0.kind = 10))) hb12 h
       try simp only [go_sem]
       have hj := posF_to rfl rfl (s_l11Content_j1_ok a0 (decide (a0.kind = 10)) _ h)
       refine seq_to hj (.one ⟨_, .done _, [], [], ?_⟩)
       clear hj
       try simp only [go_sem]
      ·replace h := ifF (c := (decide (a0.kind = 10))) hb12 h
       try simp only [go_sem]
       have hj := posF_to rfl rfl (s_l11Content_j1_ok a0 (decide (a0.kind = 11)) _ h)
       refine seq_to hj (.one ⟨_, .done _, [], [], ?_⟩)
       clear hj
       try simp only [go_sem]
theorem s_l11Agent_ok (a0 : Agent) (r : Bool) (h : s_l11Agent a0 = some r) : AC Tryz.prog 200 [.rop (Agent.avs a0) 0] (.bool r) := by
 unfold s_l11Agent at h
 refine ac_fn mixed Tryz.func200 rfl rfl rfl (by kernel_rfl) (by kernel_rfl) ?_
 try simp only [go_sem]
 refine draw_i [] .fin (by kernel_rfl) ?_
 try simp only [go_sem]
 replace h := bindE h
 obtain ⟨v2005, hv2005, h⟩ := h
 refine call_i (s_l11Fields_ok _ _ hv2005) ?_
 try simp only [go_sem]
 replace h := bindE h
 obtain ⟨v2006, hv2006, h⟩ := h
 refine call_i (s_PortsOf_ok _ _ _ hv2006) ?_
 try simp only [go_sem]
 refine seq_go ?_
 try simp only [go_sem]
 refine draw_i [] .fin (by kernel_rfl) ?_
 try simp only [go_sem]
 refine cond_i (fun hb1 => ?_) (fun hb1 => ?_)
 ·replace h := ifT (c := (decide (0 < v2006))) hb1 h
  try simp only [go_sem]
  refine cond_i (fun hb2 => ?_) (fun hb2 => ?_)
  ·replace h := ifT (c := (decide (((List.length a0.ports : Nat) : Int) = v2006))) hb2 h
   try simp only [go_sem]
   replace h := bindE h
   obtain ⟨v3020, hv3020, h⟩ := h
   refine call_i (s_l10Level_ok _ _ _ hv3020) ?_
   try simp only [go_sem]
   refine cond_i (fun hb3 => ?_) (fun hb3 => ?_)
   ·replace h := ifT (c := v3020) hb3 h
    try simp only [go_sem]
    replace h := bindE h
    obtain ⟨v3024, hv3024, h⟩ := h
    refine call_i (s_l11Content_ok _ _ hv3024) ?_
    try simp only [go_sem]
    refine seq_go ?_
    try simp only [go_sem]
    cases h
    simp only [go_sem]
   ·replace h := ifF (c := v3020) hb3 h
    try simp only [go_sem]
    refine seq_go ?_
    try simp only [go_sem]
    cases h
    simp only [go_sem]
  ·replace h := ifF (c := (decide (((List.length a0.ports : Nat) : Int) = v2006))) hb2 h
   try simp only [go_sem]
   refine seq_go ?_
   try simp only [go_sem]
   cases h
   simp only [go_sem]
 ·replace h := ifF (c := (decide (0 < v2006))) hb1 h
  try simp only [go_sem]
  refine seq_go ?_
  try simp only [go_sem]
  cases h
  simp only [go_sem]
theorem s_l11Agents_l3_all (n : Nat) : (∀ (a0 : List Agent) (p0_0 : Int) (r : Bool), s_l11Agents_l3 n a0 p0_0 = some r → posF Tryz.prog Tryz.f150 [1, 1, 0, 1, 0] (.bool r) ⟨[(0, .ro (List.map Agent.ds a0)), (3, .int .i64 p0_0)], [], []⟩) ∧
    (∀ (a0 : List Agent) (p0_0 : Int) (p1_0 : Bool) (r : Bool), s_l11Agents_j4 n a0 p0_0 p1_0 = some r → posF Tryz.prog Tryz.f150 [1, 1, 0, 1, 0, 0, 1, 0, 0, 1] (.bool r) ⟨[(0, .ro (List.map Agent.ds a0)), (3, .int .i64 p0_0), (29, .bool p1_0)], [], []⟩) := by
 induction n with
 | zero => exact ⟨(fun _ _ _ h => by rw [s_l11Agents_l3] at h; cases h), (fun _ _ _ _ h => by rw [s_l11Agents_j4] at h; cases h)⟩
 | succ n ih =>
  obtain ⟨ih0, ih1⟩ := ih
  refine ⟨?_, ?_⟩
  ·intro a0 p0_0 r h
   rw [s_l11Agents_l3] at h
   refine posF_of rfl rfl ?_
   try simp only [go_sem]
   refine loop_i ?_
   try simp only [go_sem]
   refine cond_i (fun hb2 => ?_) (fun hb2 => ?_)
   ·replace h := ifT (c := (decide (p0_0 < ((List.length a0 : Nat) : Int)))) hb2 h
    try simp only [go_sem]
    refine seq_go ?_
    try simp only [go_sem]
    replace h := bindE h
    obtain ⟨v7002, hv7002, h⟩ := h
    refine idx_m hv7002 (Agent.ds_len _) ?_
    try simp only [go_sem]
    replace h := bindE h
    obtain ⟨v7003, hv7003, h⟩ := h
    refine call_i (s_l11Agent_ok _ _ hv7003) ?_
    try simp only [go_sem]
    refine cond_i (fun hb3 => ?_) (fun hb3 => ?_)
    ·replace h := ifT (c := (!v7003)) hb3 h
     try simp only [go_sem]
     have hj := posF_to rfl rfl (ih1 a0 p0_0 true _ h)
     refine seq_to hj (.one ⟨_, .done _, [], [], ?_⟩)
     clear hj
     try simp only [go_sem]
    ·replace h := ifF (c := (!v7003)) hb3 h
     try simp only [go_sem]
     replace h := bindE h
     obtain ⟨v7008, hv7008, h⟩ := h
     refine idx_m hv7008 (Agent.ds_len _) ?_
     try simp only [go_sem]
     have hj := posF_to rfl rfl (ih1 a0 p0_0 (!((decide (v7008.kind = 1)) == (decide (p0_0 = 0)))) _ h)
     refine seq_to hj (.one ⟨_, .done _, [], [], ?_⟩)
     clear hj
     try simp only [go_sem]
   ·replace h := ifF (c := (decide (p0_0 < ((List.length a0 : Nat) : Int)))) hb2 h
    try simp only [go_sem]
    refine seq_go ?_
    try simp only [go_sem]
    cases h
    simp only [go_sem]
  ·intro a0 p0_0 p1_0 r h
   rw [s_l11Agents_j4] at h
   refine posF_of rfl rfl ?_
   try simp only [go_sem]
   refine cond_i (fun hb4 => ?_) (fun hb4 => ?_)
   ·replace h := ifT (c := p1_0) hb4 h
    try simp only [go_sem]
    cases h
    simp only [go_sem]
   ·replace h := ifF (c := p1_0) hb4 h
    try simp only [go_sem]
    refine seq_go ?_
    try simp only [go_sem]
    have hj := posF_to rfl rfl (ih0 a0 (IntKind.i64.wrap (p0_0 + 1)) _ h)
    refine lp_to hj (.one ⟨_, .done _, [], [], ?_⟩)
    clear hj
    try simp only [go_sem]
theorem s_l11Agents_l3_ok (n : Nat) : (∀ (a0 : List Agent) (p0_0 : Int) (r : Bool), s_l11Agents_l3 n a0 p0_0 = some r → posF Tryz.prog Tryz.f150 [1, 1, 0, 1, 0] (.bool r) ⟨[(0, .ro (List.map Agent.ds a0)), (3, .int .i64 p0_0)], [], []⟩) := (s_l11Agents_l3_all n).1
theorem s_l11Agents_j4_ok (n : Nat) : (∀ (a0 : List Agent) (p0_0 : Int) (p1_0 : Bool) (r : Bool), s_l11Agents_j4 n a0 p0_0 p1_0 = some r → posF Tryz.prog Tryz.f150 [1, 1, 0, 1, 0, 0, 1, 0, 0, 1] (.bool r) ⟨[(0, .ro (List.map Agent.ds a0)), (3, .int .i64 p0_0), (29, .bool p1_0)], [], []⟩) := (s_l11Agents_l3_all n).2
theorem s_l11Agents_ok (a0 : List Agent) (r : Bool) (h : s_l11Agents a0 = some r) : AC Tryz.prog 150 [.ro (List.map Agent.ds a0)] (.bool r) := by
 unfold s_l11Agents at h
 refine ac_fn mixed Tryz.func150 rfl rfl rfl (by kernel_rfl) (by kernel_rfl) ?_
 try simp only [go_sem]
 replace h := bindE h
 obtain ⟨v2002, hv2002, h⟩ := h
 refine call_i (s_l00In_ok _ _ _ _ hv2002) ?_
 try simp only [go_sem]
 refine seq_go ?_
 try simp only [go_sem]
 refine cond_i (fun hb1 => ?_) (fun hb1 => ?_)
 ·replace h := ifT (c := (!v2002)) hb1 h
  try simp only [go_sem]
  cases h
  simp only [go_sem]
 ·replace h := ifF (c := (!v2002)) hb1 h
  try simp only [go_sem]
  refine seq_go ?_
  try simp only [go_sem]
  have hj := posF_to rfl rfl (s_l11Agents_l3_ok fuel a0 0 _ h)
  refine loop_to hj (.one ⟨_, .done _, [], [], ?_⟩)
  clear hj
  try simp only [go_sem]
theorem s_l11Port_ok (a0 : List Agent) (a1 : Port) (r : Bool) (h : s_l11Port a0 a1 = some r) : AC Tryz.prog 151 [.ro (List.map Agent.ds a0), .agg (Port.avs a1)] (.bool r) := by
 unfold s_l11Port at h
 refine ac_fn mixed Tryz.func151 rfl rfl rfl (by kernel_rfl) (by kernel_rfl) ?_
 try simp only [go_sem]
 refine draw_i [] .fin (by kernel_rfl) ?_
 try simp only [go_sem]
 replace h := bindE h
 obtain ⟨v2005, hv2005, h⟩ := h
 refine call_i (s_l00In_ok _ _ _ _ hv2005) ?_
 try simp only [go_sem]
 refine cond_i (fun hb1 => ?_) (fun hb1 => ?_)
 ·replace h := ifT (c := v2005) hb1 h
  try simp only [go_sem]
  replace h := bindE h
  obtain ⟨v2012, hv2012, h⟩ := h
  refine idx_m hv2012 (Agent.ds_len _) ?_
  try simp only [go_sem]
  replace h := bindE h
  obtain ⟨v2017, hv2017, h⟩ := h
  refine call_i (s_l00In_ok _ _ _ _ hv2017) ?_
  try simp only [go_sem]
  refine seq_go ?_
  try simp only [go_sem]
  cases h
  simp only [go_sem]
 ·replace h := ifF (c := v2005) hb1 h
  try simp only [go_sem]
  refine seq_go ?_
  try simp only [go_sem]
  cases h
  simp only [go_sem]
theorem s_l11Ok_l9_all (n : Nat) : (∀ (a0 : Net) (p0_0 : Int) (r : Bool), s_l11Ok_l9 n a0 p0_0 = some r → posF Tryz.prog Tryz.f84 [1, 1, 0, 1, 0] (.bool r) ⟨[(0, .rop [.ro (List.map Agent.ds a0.agents)] 0), (3, .int .i64 p0_0)], [], []⟩) ∧
    (∀ (a0 : Net) (p0_0 : Int) (v7005 : Agent) (p1_0 : Int) (r : Bool), s_l11Ok_l12 n a0 p0_0 v7005 p1_0 = some r → posF Tryz.prog Tryz.f84 [1, 1, 0, 1, 0, 0, 1, 0, 0, 1, 1, 0] (.bool r) ⟨[(0, .rop [.ro (List.map Agent.ds a0.agents)] 0), (3, .int .i64 p0_0), (4, .rop [.int .i64 v7005.kind, .int .i64 v7005.level, .int .i64 v7005.value, .ro (List.map i64D v7005.data), .ro (List.map Port.ds v7005.ports)] 0), (5, .int .i64 p1_0)], [], []⟩) ∧
    (∀ (a0 : Net) (p0_0 : Int) (p1_0 : Int) (v7005 : Agent) (p2_0 : Bool) (r : Bool), s_l11Ok_j13 n a0 p0_0 p1_0 v7005 p2_0 = some r → posF Tryz.prog Tryz.f84 [1, 1, 0, 1, 0, 0, 1, 0, 0, 1, 1, 0, 0, 1, 0, 0, 1, 1, 1] (.bool r) ⟨[(0, .rop [.ro (List.map Agent.ds a0.agents)] 0), (3, .int .i64 p0_0), (4, .rop [.int .i64 v7005.kind, .int .i64 v7005.level, .int .i64 v7005.value, .ro (List.map i64D v7005.data), .ro (List.map Port.ds v7005.ports)] 0), (5, .int .i64 p1_0), (76, .bool p2_0)], [], []⟩) := by
 induction n with
 | zero => exact ⟨(fun _ _ _ h => by rw [s_l11Ok_l9] at h; cases h), (fun _ _ _ _ _ h => by rw [s_l11Ok_l12] at h; cases h), (fun _ _ _ _ _ _ h => by rw [s_l11Ok_j13] at h; cases h)⟩
 | succ n ih =>
  obtain ⟨ih0, ih1, ih2⟩ := ih
  refine ⟨?_, ?_, ?_⟩
  ·intro a0 p0_0 r h
   rw [s_l11Ok_l9] at h
   refine posF_of rfl rfl ?_
   try simp only [go_sem]
   refine loop_i ?_
   try simp only [go_sem]
   refine cond_i (fun hb2 => ?_) (fun hb2 => ?_)
   ·replace h := ifT (c := (decide (p0_0 < ((List.length a0.agents : Nat) : Int)))) hb2 h
    try simp only [go_sem]
    refine seq_go ?_
    try simp only [go_sem]
    replace h := bindE h
    obtain ⟨v7005, hv7005, h⟩ := h
    refine idx_m hv7005 (Agent.ds_len _) ?_
    try simp only [go_sem]
    have hj := posF_to rfl rfl (ih1 a0 p0_0 v7005 0 _ h)
    refine loop_to hj (.one ⟨_, .done _, [], [], ?_⟩)
    clear hj
    try simp only [go_sem]
   ·replace h := ifF (c := (decide (p0_0 < ((List.length a0.agents : Nat) : Int)))) hb2 h
    try simp only [go_sem]
    refine seq_go ?_
    try simp only [go_sem]
    cases h
    simp only [go_sem]
  ·intro a0 p0_0 v7005 p1_0 r h
   rw [s_l11Ok_l12] at h
   refine posF_of rfl rfl ?_
   try simp only [go_sem]
   refine loop_i ?_
   try simp only [go_sem]
   refine cond_i (fun hb3 => ?_) (fun hb3 => ?_)
   ·replace h := ifT (c := (decide (p1_0 < ((List.length v7005.ports : Nat) : Int)))) hb3 h
    try simp only [go_sem]
    refine seq_go ?_
    try simp only [go_sem]
    replace h := bindE h
    obtain ⟨v12005, hv12005, h⟩ := h
    refine idx_m hv12005 (Port.ds_len _) ?_
    try simp only [go_sem]
    refine draw_i [] .fin (by kernel_rfl) ?_
    try simp only [go_sem]
    refine cond_i (fun hb4 => ?_) (fun hb4 => ?_)
    ·replace h := ifT (c := (decide (v12005.agent = p0_0) && decide (v12005.slot = p1_0))) hb4 h
     try simp only [go_sem]
     have hj := posF_to rfl rfl (ih2 a0 p0_0 p1_0 v7005 true _ h)
     refine seq_to hj (.one ⟨_, .done _, [], [], ?_⟩)
     clear hj
     try simp only [go_sem]
    ·replace h := ifF (c := (decide (v12005.agent = p0_0) && decide (v12005.slot = p1_0))) hb4 h
     try simp only [go_sem]
     replace h := bindE h
     obtain ⟨v13009, hv13009, h⟩ := h
     refine call_i (s_l11Port_ok _ _ _ hv13009) ?_
     try simp only [go_sem]
     refine cond_i (fun hb5 => ?_) (fun hb5 => ?_)
     ·replace h := ifT (c := (!v13009)) hb5 h
      try simp only [go_sem]
      have hj := posF_to rfl rfl (ih2 a0 p0_0 p1_0 v7005 true _ h)
      refine seq_to hj (.one ⟨_, .done _, [], [], ?_⟩)
      clear hj
      try simp only [go_sem]
     ·replace h := ifF (c := (!v13009)) hb5 h
      try simp only [go_sem]
      replace h := bindE h
      obtain ⟨v13019, hv13019, h⟩ := h
      refine idx_m hv13019 (Agent.ds_len _) ?_
      try simp only [go_sem]
      replace h := bindE h
      obtain ⟨v13024, hv13024, h⟩ := h
      refine idx_m hv13024 (Port.ds_len _) ?_
      try simp only [go_sem]
      have hj := posF_to rfl rfl (ih2 a0 p0_0 p1_0 v7005 (!(decide (v13024.agent = p0_0) && decide (v13024.slot = p1_0))) _ h)
      refine seq_to hj (.one ⟨_, .done _, [], [], ?_⟩)
      clear hj
      try simp only [go_sem]
   ·replace h := ifF (c := (decide (p1_0 < ((List.length v7005.ports : Nat) : Int)))) hb3 h
    try simp only [go_sem]
    refine seq_go ?_
    try simp only [go_sem]
    have hj := posF_to rfl rfl (ih0 a0 (IntKind.i64.wrap (p0_0 + 1)) _ h)
    refine lp_to hj (.one ⟨_, .done _, [], [], ?_⟩)
    clear hj
    try simp only [go_sem]
  ·intro a0 p0_0 p1_0 v7005 p2_0 r h
   rw [s_l11Ok_j13] at h
   refine posF_of rfl rfl ?_
   try simp only [go_sem]
   refine cond_i (fun hb6 => ?_) (fun hb6 => ?_)
   ·replace h := ifT (c := p2_0) hb6 h
    try simp only [go_sem]
    cases h
    simp only [go_sem]
   ·replace h := ifF (c := p2_0) hb6 h
    try simp only [go_sem]
    refine seq_go ?_
    try simp only [go_sem]
    have hj := posF_to rfl rfl (ih1 a0 p0_0 v7005 (IntKind.i64.wrap (p1_0 + 1)) _ h)
    refine lp_to hj (.one ⟨_, .done _, [], [], ?_⟩)
    clear hj
    try simp only [go_sem]
theorem s_l11Ok_l9_ok (n : Nat) : (∀ (a0 : Net) (p0_0 : Int) (r : Bool), s_l11Ok_l9 n a0 p0_0 = some r → posF Tryz.prog Tryz.f84 [1, 1, 0, 1, 0] (.bool r) ⟨[(0, .rop [.ro (List.map Agent.ds a0.agents)] 0), (3, .int .i64 p0_0)], [], []⟩) := (s_l11Ok_l9_all n).1
theorem s_l11Ok_l12_ok (n : Nat) : (∀ (a0 : Net) (p0_0 : Int) (v7005 : Agent) (p1_0 : Int) (r : Bool), s_l11Ok_l12 n a0 p0_0 v7005 p1_0 = some r → posF Tryz.prog Tryz.f84 [1, 1, 0, 1, 0, 0, 1, 0, 0, 1, 1, 0] (.bool r) ⟨[(0, .rop [.ro (List.map Agent.ds a0.agents)] 0), (3, .int .i64 p0_0), (4, .rop [.int .i64 v7005.kind, .int .i64 v7005.level, .int .i64 v7005.value, .ro (List.map i64D v7005.data), .ro (List.map Port.ds v7005.ports)] 0), (5, .int .i64 p1_0)], [], []⟩) := (s_l11Ok_l9_all n).2.1
theorem s_l11Ok_j13_ok (n : Nat) : (∀ (a0 : Net) (p0_0 : Int) (p1_0 : Int) (v7005 : Agent) (p2_0 : Bool) (r : Bool), s_l11Ok_j13 n a0 p0_0 p1_0 v7005 p2_0 = some r → posF Tryz.prog Tryz.f84 [1, 1, 0, 1, 0, 0, 1, 0, 0, 1, 1, 0, 0, 1, 0, 0, 1, 1, 1] (.bool r) ⟨[(0, .rop [.ro (List.map Agent.ds a0.agents)] 0), (3, .int .i64 p0_0), (4, .rop [.int .i64 v7005.kind, .int .i64 v7005.level, .int .i64 v7005.value, .ro (List.map i64D v7005.data), .ro (List.map Port.ds v7005.ports)] 0), (5, .int .i64 p1_0), (76, .bool p2_0)], [], []⟩) := (s_l11Ok_l9_all n).2.2
theorem s_l11Ok_ok (a0 : Net) (r : Bool) (h : s_l11Ok a0 = some r) : AC Tryz.prog 84 [.rop (Net.avs a0) 0] (.bool r) := by
 unfold s_l11Ok at h
 refine ac_fn mixed Tryz.func84 rfl rfl rfl (by kernel_rfl) (by kernel_rfl) ?_
 try simp only [go_sem]
 replace h := bindE h
 obtain ⟨v2004, hv2004, h⟩ := h
 refine call_i (s_l11Agents_ok _ _ hv2004) ?_
 try simp only [go_sem]
 refine seq_go ?_
 try simp only [go_sem]
 refine cond_i (fun hb1 => ?_) (fun hb1 => ?_)
 ·replace h := ifT (c := (!v2004)) hb1 h
  try simp only [go_sem]
  cases h
  simp only [go_sem]
 ·replace h := ifF (c := (!v2004)) hb1 h
  try simp only [go_sem]
  refine seq_go ?_
  try simp only [go_sem]
  have hj := posF_to rfl rfl (s_l11Ok_l9_ok fuel a0 0 _ h)
  refine loop_to hj (.one ⟨_, .done _, [], [], ?_⟩)
  clear hj
  try simp only [go_sem]
theorem s_l13Book_l1_ok (n : Nat) : (∀ (a0 : List Net) (p0_0 : Int) (r : Bool), s_l13Book_l1 n a0 p0_0 = some r → posF Tryz.prog Tryz.f73 [1, 1, 0, 1, 0] (.bool r) ⟨[(0, .ro (List.map Net.ds a0)), (3, .int .i64 p0_0)], [], []⟩) := by
 induction n with
 | zero => exact ((fun _ _ _ h => by rw [s_l13Book_l1] at h; cases h))
 | succ n ih =>
  have ih0 := ih
  ·intro a0 p0_0 r h
   rw [s_l13Book_l1] at h
   refine posF_of rfl rfl ?_
   try simp only [go_sem]
   refine loop_i ?_
   try simp only [go_sem]
   refine cond_i (fun hb2 => ?_) (fun hb2 => ?_)
   ·replace h := ifT (c := (decide (p0_0 < ((List.length a0 : Nat) : Int)))) hb2 h
    try simp only [go_sem]
    refine seq_go ?_
    try simp only [go_sem]
    replace h := bindE h
    obtain ⟨v7002, hv7002, h⟩ := h
    refine idx_m hv7002 (Net.ds_len _) ?_
    try simp only [go_sem]
    replace h := bindE h
    obtain ⟨v7003, hv7003, h⟩ := h
    refine call_i (s_l11Ok_ok _ _ hv7003) ?_
    try simp only [go_sem]
    refine seq_go ?_
    try simp only [go_sem]
    refine cond_i (fun hb3 => ?_) (fun hb3 => ?_)
    ·replace h := ifT (c := (!v7003)) hb3 h
     try simp only [go_sem]
     cases h
     simp only [go_sem]
    ·replace h := ifF (c := (!v7003)) hb3 h
     try simp only [go_sem]
     refine seq_go ?_
     try simp only [go_sem]
     have hj := posF_to rfl rfl (ih0 a0 (IntKind.i64.wrap (p0_0 + 1)) _ h)
     refine lp_to hj (.one ⟨_, .done _, [], [], ?_⟩)
     clear hj
     try simp only [go_sem]
   ·replace h := ifF (c := (decide (p0_0 < ((List.length a0 : Nat) : Int)))) hb2 h
    try simp only [go_sem]
    refine seq_go ?_
    try simp only [go_sem]
    cases h
    simp only [go_sem]
theorem s_l13Book_ok (a0 : List Net) (r : Bool) (h : s_l13Book a0 = some r) : AC Tryz.prog 73 [.ro (List.map Net.ds a0)] (.bool r) := by
 unfold s_l13Book at h
 refine ac_fn mixed Tryz.func73 rfl rfl rfl (by kernel_rfl) (by kernel_rfl) ?_
 try simp only [go_sem]
 refine cond_i (fun hb1 => ?_) (fun hb1 => ?_)
 ·replace h := ifT (c := (decide (24 < ((List.length a0 : Nat) : Int)))) hb1 h
  try simp only [go_sem]
  cases h
  simp only [go_sem]
 ·replace h := ifF (c := (decide (24 < ((List.length a0 : Nat) : Int)))) hb1 h
  try simp only [go_sem]
  refine seq_go ?_
  try simp only [go_sem]
  have hj := posF_to rfl rfl (s_l13Book_l1_ok fuel a0 0 _ h)
  refine loop_to hj (.one ⟨_, .done _, [], [], ?_⟩)
  clear hj
  try simp only [go_sem]
theorem s_l15Schedule_l1_ok (n : Nat) : (∀ (a0 : List Int) (p0_0 : Int) (r : Bool), s_l15Schedule_l1 n a0 p0_0 = some r → posF Tryz.prog Tryz.f107 [1, 1, 0, 1, 0] (.bool r) ⟨[(0, .ro (List.map i64D a0)), (3, .int .i64 p0_0)], [], []⟩) := by
 induction n with
 | zero => exact ((fun _ _ _ h => by rw [s_l15Schedule_l1] at h; cases h))
 | succ n ih =>
  have ih0 := ih
  ·intro a0 p0_0 r h
   rw [s_l15Schedule_l1] at h
   refine posF_of rfl rfl ?_
   try simp only [go_sem]
   refine loop_i ?_
   try simp only [go_sem]
   refine cond_i (fun hb2 => ?_) (fun hb2 => ?_)
   ·replace h := ifT (c := (decide (p0_0 < ((List.length a0 : Nat) : Int)))) hb2 h
    try simp only [go_sem]
    refine seq_go ?_
    try simp only [go_sem]
    replace h := bindE h
    obtain ⟨v7002, hv7002, h⟩ := h
    refine idx_m hv7002 rfl ?_
    try simp only [go_sem]
    replace h := bindE h
    obtain ⟨v7004, hv7004, h⟩ := h
    refine call_i (s_l00In_ok _ _ _ _ hv7004) ?_
    try simp only [go_sem]
    refine seq_go ?_
    try simp only [go_sem]
    refine cond_i (fun hb3 => ?_) (fun hb3 => ?_)
    ·replace h := ifT (c := (!v7004)) hb3 h
     try simp only [go_sem]
     cases h
     simp only [go_sem]
    ·replace h := ifF (c := (!v7004)) hb3 h
     try simp only [go_sem]
     refine seq_go ?_
     try simp only [go_sem]
     have hj := posF_to rfl rfl (ih0 a0 (IntKind.i64.wrap (p0_0 + 1)) _ h)
     refine lp_to hj (.one ⟨_, .done _, [], [], ?_⟩)
     clear hj
     try simp only [go_sem]
   ·replace h := ifF (c := (decide (p0_0 < ((List.length a0 : Nat) : Int)))) hb2 h
    try simp only [go_sem]
    refine seq_go ?_
    try simp only [go_sem]
    cases h
    simp only [go_sem]
theorem s_l15Schedule_ok (a0 : List Int) (r : Bool) (h : s_l15Schedule a0 = some r) : AC Tryz.prog 107 [.ro (List.map i64D a0)] (.bool r) := by
 unfold s_l15Schedule at h
 refine ac_fn mixed Tryz.func107 rfl rfl rfl (by kernel_rfl) (by kernel_rfl) ?_
 try simp only [go_sem]
 refine cond_i (fun hb1 => ?_) (fun hb1 => ?_)
 ·replace h := ifT (c := (decide (200 < ((List.length a0 : Nat) : Int)))) hb1 h
  try simp only [go_sem]
  cases h
  simp only [go_sem]
 ·replace h := ifF (c := (decide (200 < ((List.length a0 : Nat) : Int)))) hb1 h
  try simp only [go_sem]
  refine seq_go ?_
  try simp only [go_sem]
  have hj := posF_to rfl rfl (s_l15Schedule_l1_ok fuel a0 0 _ h)
  refine loop_to hj (.one ⟨_, .done _, [], [], ?_⟩)
  clear hj
  try simp only [go_sem]
theorem s_l15Counts_l1_ok (n : Nat) : (∀ (a0 : List Int) (p0_0 : Int) (r : Bool), s_l15Counts_l1 n a0 p0_0 = some r → posF Tryz.prog Tryz.f176 [1, 0, 1, 0] (.bool r) ⟨[(0, .ro (List.map i64D a0)), (3, .int .i64 p0_0)], [], []⟩) := by
 induction n with
 | zero => exact ((fun _ _ _ h => by rw [s_l15Counts_l1] at h; cases h))
 | succ n ih =>
  have ih0 := ih
  ·intro a0 p0_0 r h
   rw [s_l15Counts_l1] at h
   refine posF_of rfl rfl ?_
   try simp only [go_sem]
   refine loop_i ?_
   try simp only [go_sem]
   refine cond_i (fun hb1 => ?_) (fun hb1 => ?_)
   ·replace h := ifT (c := (decide (p0_0 < ((List.length a0 : Nat) : Int)))) hb1 h
    try simp only [go_sem]
    refine seq_go ?_
    try simp only [go_sem]
    replace h := bindE h
    obtain ⟨v5002, hv5002, h⟩ := h
    refine idx_m hv5002 rfl ?_
    try simp only [go_sem]
    replace h := bindE h
    obtain ⟨v5004, hv5004, h⟩ := h
    refine call_i (s_l00In_ok _ _ _ _ hv5004) ?_
    try simp only [go_sem]
    refine seq_go ?_
    try simp only [go_sem]
    refine cond_i (fun hb2 => ?_) (fun hb2 => ?_)
    ·replace h := ifT (c := (!v5004)) hb2 h
     try simp only [go_sem]
     cases h
     simp only [go_sem]
    ·replace h := ifF (c := (!v5004)) hb2 h
     try simp only [go_sem]
     refine seq_go ?_
     try simp only [go_sem]
     have hj := posF_to rfl rfl (ih0 a0 (IntKind.i64.wrap (p0_0 + 1)) _ h)
     refine lp_to hj (.one ⟨_, .done _, [], [], ?_⟩)
     clear hj
     try simp only [go_sem]
   ·replace h := ifF (c := (decide (p0_0 < ((List.length a0 : Nat) : Int)))) hb1 h
    try simp only [go_sem]
    refine seq_go ?_
    try simp only [go_sem]
    cases h
    simp only [go_sem]
theorem s_l15Counts_ok (a0 : List Int) (r : Bool) (h : s_l15Counts a0 = some r) : AC Tryz.prog 176 [.ro (List.map i64D a0)] (.bool r) := by
 unfold s_l15Counts at h
 refine ac_fn mixed Tryz.func176 rfl rfl rfl (by kernel_rfl) (by kernel_rfl) ?_
 try simp only [go_sem]
 have hj := posF_to rfl rfl (s_l15Counts_l1_ok fuel a0 0 _ h)
 refine loop_to hj (.one ⟨_, .done _, [], [], ?_⟩)
 clear hj
 try simp only [go_sem]
theorem s_l34Sum_l1_ok (n : Nat) : (∀ (a0 : List Int) (p0_0 : Int) (p0_1 : Int) (r : Int), s_l34Sum_l1 n a0 p0_0 p0_1 = some r → posF Tryz.prog Tryz.f177 [1, 1, 0, 1, 0] (.int .i64 r) ⟨[(0, .ro (List.map i64D a0)), (3, .int .i64 p0_0), (4, .int .i64 p0_1)], [], []⟩) := by
 induction n with
 | zero => exact ((fun _ _ _ _ h => by rw [s_l34Sum_l1] at h; cases h))
 | succ n ih =>
  have ih0 := ih
  ·intro a0 p0_0 p0_1 r h
   rw [s_l34Sum_l1] at h
   refine posF_of rfl rfl ?_
   try simp only [go_sem]
   refine loop_i ?_
   try simp only [go_sem]
   refine cond_i (fun hb1 => ?_) (fun hb1 => ?_)
   ·replace h := ifT (c := (decide (p0_1 < ((List.length a0 : Nat) : Int)))) hb1 h
    try simp only [go_sem]
    refine seq_go ?_
    try simp only [go_sem]
    replace h := bindE h
    obtain ⟨v6003, hv6003, h⟩ := h
    refine idx_m hv6003 rfl ?_
    try simp only [go_sem]
    refine seq_go ?_
    try simp only [go_sem]
    have hj := posF_to rfl rfl (ih0 a0 (IntKind.i64.wrap (p0_0 + v6003)) (IntKind.i64.wrap (p0_1 + 1)) _ h)
    refine lp_to hj (.one ⟨_, .done _, [], [], ?_⟩)
    clear hj
    try simp only [go_sem]
   ·replace h := ifF (c := (decide (p0_1 < ((List.length a0 : Nat) : Int)))) hb1 h
    try simp only [go_sem]
    refine seq_go ?_
    try simp only [go_sem]
    cases h
    simp only [go_sem]
theorem s_l34Sum_ok (a0 : List Int) (r : Int) (h : s_l34Sum a0 = some r) : AC Tryz.prog 177 [.ro (List.map i64D a0)] (.int .i64 r) := by
 unfold s_l34Sum at h
 refine ac_fn mixed Tryz.func177 rfl rfl rfl (by kernel_rfl) (by kernel_rfl) ?_
 try simp only [go_sem]
 have hj := posF_to rfl rfl (s_l34Sum_l1_ok fuel a0 0 0 _ h)
 refine loop_to hj (.one ⟨_, .done _, [], [], ?_⟩)
 clear hj
 try simp only [go_sem]
theorem s_l34Most_ok (a0 : Job) (r : Int) (h : s_l34Most a0 = some r) : AC Tryz.prog 178 [.rop (Job.avs a0) 0] (.int .i64 r) := by
 unfold s_l34Most at h
 refine ac_fn mixed Tryz.func178 rfl rfl rfl (by kernel_rfl) (by kernel_rfl) ?_
 try simp only [go_sem]
 refine cond_i (fun hb1 => ?_) (fun hb1 => ?_)
 ·replace h := ifT (c := (decide (a0.state = 1))) hb1 h
  try simp only [go_sem]
  replace h := bindE h
  obtain ⟨v3004, hv3004, h⟩ := h
  refine call_i (s_l34Sum_ok _ _ hv3004) ?_
  try simp only [go_sem]
  refine seq_go ?_
  try simp only [go_sem]
  cases h
  simp only [go_sem]
 ·replace h := ifF (c := (decide (a0.state = 1))) hb1 h
  try simp only [go_sem]
  refine seq_go ?_
  try simp only [go_sem]
  replace h := bindE h
  obtain ⟨v4004, hv4004, h⟩ := h
  refine call_i (s_l34Sum_ok _ _ hv4004) ?_
  try simp only [go_sem]
  refine seq_go ?_
  try simp only [go_sem]
  cases h
  simp only [go_sem]
theorem s_l34NoNet_ok (a0 : Net) (r : Bool) (h : s_l34NoNet a0 = some r) : AC Tryz.prog 179 [.rop (Net.avs a0) 0] (.bool r) := by
 unfold s_l34NoNet at h
 refine ac_fn mixed Tryz.func179 rfl rfl rfl (by kernel_rfl) (by kernel_rfl) ?_
 try simp only [go_sem]
 cases h
 simp only [go_sem]
theorem s_l34Job_j2_ok (a0 : Job) (p1_0 : Bool) (r : Bool) (h : s_l34Job_j2 a0 p1_0 = some r) : posF Tryz.prog Tryz.f106 [1, 1, 1, 0, 1] (.bool r) ⟨[(0, .rop [.int .i64 a0.id, .int .i64 a0.weight, .int .i64 a0.state, .int .i64 a0.code, .int .i64 a0.left, .int .i64 a0.slices, .ro (List.map i64D a0.counts), .ro (List.map i64D a0.schedule), .ro (List.map Net.ds a0.book), .ro (List.map Agent.ds a0.net.agents)] 0), (113, .bool p1_0)], [], []⟩ := by
 unfold s_l34Job_j2 at h
 refine posF_of rfl rfl ?_
 try simp only [go_sem]
 refine cond_i (fun hb13 => ?_) (fun hb13 => ?_)
 ·replace h := ifT (c := p1_0) hb13 h
  try simp only [go_sem]
  cases h
  simp only [go_sem]
 ·replace h := ifF (c := p1_0) hb13 h
  try simp only [go_sem]
  refine seq_go ?_
  try simp only [go_sem]
  refine cond_i (fun hb14 => ?_) (fun hb14 => ?_)
  ·replace h := ifT (c := (decide (a0.state = 2))) hb14 h
   try simp only [go_sem]
   replace h := bindE h
   obtain ⟨v9003, hv9003, h⟩ := h
   refine call_i (ac_sub (s_l11Ok_ok _ _ hv9003) (.cons (.rop rfl) .nil)) ?_
   try simp only [go_sem]
   refine seq_go ?_
   try simp only [go_sem]
   cases h
   simp only [go_sem]
  ·replace h := ifF (c := (decide (a0.state = 2))) hb14 h
   try simp only [go_sem]
   refine seq_go ?_
   try simp only [go_sem]
   replace h := bindE h
   obtain ⟨v10003, hv10003, h⟩ := h
   refine call_i (ac_sub (s_l34NoNet_ok _ _ hv10003) (.cons (.rop rfl) .nil)) ?_
   try simp only [go_sem]
   refine seq_go ?_
   try simp only [go_sem]
   cases h
   simp only [go_sem]
theorem s_l34Job_j1_ok (a0 : Job) (p0_0 : Bool) (r : Bool) (h : s_l34Job_j1 a0 p0_0 = some r) : posF Tryz.prog Tryz.f106 [1, 0, 1] (.bool r) ⟨[(0, .rop [.int .i64 a0.id, .int .i64 a0.weight, .int .i64 a0.state, .int .i64 a0.code, .int .i64 a0.left, .int .i64 a0.slices, .ro (List.map i64D a0.counts), .ro (List.map i64D a0.schedule), .ro (List.map Net.ds a0.book), .ro (List.map Agent.ds a0.net.agents)] 0), (76, .bool p0_0)], [], []⟩ := by
 unfold s_l34Job_j1 at h
 refine posF_of rfl rfl ?_
 try simp only [go_sem]
 refine cond_i (fun hb8 => ?_) (fun hb8 => ?_)
 ·replace h := ifT (c := p0_0) hb8 h
  try simp only [go_sem]
  cases h
  simp only [go_sem]
 ·replace h := ifF (c := p0_0) hb8 h
  try simp only [go_sem]
  refine seq_go ?_
  try simp only [go_sem]
  refine cond_i (fun hb9 => ?_) (fun hb9 => ?_)
  ·replace h := ifT (c := (decide (a0.state = 1))) hb9 h
   try simp only [go_sem]
   replace h := bindE h
   obtain ⟨v5004, hv5004, h⟩ := h
   refine call_i (s_l15Schedule_ok _ _ hv5004) ?_
   try simp only [go_sem]
   refine cond_i (fun hb10 => ?_) (fun hb10 => ?_)
   ·replace h := ifT (c := v5004) hb10 h
    try simp only [go_sem]
    replace h := bindE h
    obtain ⟨v5010, hv5010, h⟩ := h
    refine call_i (s_l13Book_ok _ _ hv5010) ?_
    try simp only [go_sem]
    refine cond_i (fun hb11 => ?_) (fun hb11 => ?_)
    ·replace h := ifT (c := v5010) hb11 h
     try simp only [go_sem]
     replace h := bindE h
     obtain ⟨v5016, hv5016, h⟩ := h
     refine call_i (ac_sub (s_l11Ok_ok _ _ hv5016) (.cons (.rop rfl) .nil)) ?_
     try simp only [go_sem]
     refine seq_go ?_
     try simp only [go_sem]
     cases h
     simp only [go_sem]
    ·replace h := ifF (c := v5010) hb11 h
     try simp only [go_sem]
     refine seq_go ?_
     try simp only [go_sem]
     cases h
     simp only [go_sem]
   ·replace h := ifF (c := v5004) hb10 h
    try simp only [go_sem]
    refine seq_go ?_
    try simp only [go_sem]
    cases h
    simp only [go_sem]
  ·replace h := ifF (c := (decide (a0.state = 1))) hb9 h
   try simp only [go_sem]
   refine seq_go ?_
   try simp only [go_sem]
   refine cond_i (fun hb12 => ?_) (fun hb12 => ?_)
   ·replace h := ifT (c := (decide (0 < ((List.length a0.schedule : Nat) : Int)))) hb12 h
    try simp only [go_sem]
    have hj := posF_to rfl rfl (s_l34Job_j2_ok a0 true _ h)
    refine seq_to hj (.one ⟨_, .done _, [], [], ?_⟩)
    clear hj
    try simp only [go_sem]
   ·replace h := ifF (c := (decide (0 < ((List.length a0.schedule : Nat) : Int)))) hb12 h
    try simp only [go_sem]
    have hj := posF_to rfl rfl (s_l34Job_j2_ok a0 (decide (0 < ((List.length a0.book : Nat) : Int))) _ h)
    refine seq_to hj (.one ⟨_, .done _, [], [], ?_⟩)
    clear hj
    try simp only [go_sem]
theorem s_l34Job_ok (a0 : Job) (r : Bool) (h : s_l34Job a0 = some r) : AC Tryz.prog 106 [.rop (Job.avs a0) 0] (.bool r) := by
 unfold s_l34Job at h
 refine ac_fn mixed Tryz.func106 rfl rfl rfl (by kernel_rfl) (by kernel_rfl) ?_
 try simp only [go_sem]
 refine draw_i [] .fin (by kernel_rfl) ?_
 try simp only [go_sem]
 replace h := bindE h
 obtain ⟨v2004, hv2004, h⟩ := h
 refine call_i (s_l00In_ok _ _ _ _ hv2004) ?_
 try simp only [go_sem]
 refine cond_i (fun hb1 => ?_) (fun hb1 => ?_)
 ·replace h := ifT (c := (!v2004)) hb1 h
  try simp only [go_sem]
  have hj := posF_to rfl rfl (s_l34Job_j1_ok a0 true _ h)
  refine seq_to hj (.one ⟨_, .done _, [], [], ?_⟩)
  clear hj
  try simp only [go_sem]
 ·replace h := ifF (c := (!v2004)) hb1 h
  try simp only [go_sem]
  replace h := bindE h
  obtain ⟨v2011, hv2011, h⟩ := h
  refine call_i (s_l00In_ok _ _ _ _ hv2011) ?_
  try simp only [go_sem]
  refine cond_i (fun hb2 => ?_) (fun hb2 => ?_)
  ·replace h := ifT (c := (!v2011)) hb2 h
   try simp only [go_sem]
   have hj := posF_to rfl rfl (s_l34Job_j1_ok a0 true _ h)
   refine seq_to hj (.one ⟨_, .done _, [], [], ?_⟩)
   clear hj
   try simp only [go_sem]
  ·replace h := ifF (c := (!v2011)) hb2 h
   try simp only [go_sem]
   replace h := bindE h
   obtain ⟨v2019, hv2019, h⟩ := h
   refine call_i (s_l00In_ok _ _ _ _ hv2019) ?_
   try simp only [go_sem]
   refine cond_i (fun hb3 => ?_) (fun hb3 => ?_)
   ·replace h := ifT (c := (!v2019)) hb3 h
    try simp only [go_sem]
    have hj := posF_to rfl rfl (s_l34Job_j1_ok a0 true _ h)
    refine seq_to hj (.one ⟨_, .done _, [], [], ?_⟩)
    clear hj
    try simp only [go_sem]
   ·replace h := ifF (c := (!v2019)) hb3 h
    try simp only [go_sem]
    replace h := bindE h
    obtain ⟨v2027, hv2027, h⟩ := h
    refine call_i (s_l15Counts_ok _ _ hv2027) ?_
    try simp only [go_sem]
    refine cond_i (fun hb4 => ?_) (fun hb4 => ?_)
    ·replace h := ifT (c := (!v2027)) hb4 h
     try simp only [go_sem]
     have hj := posF_to rfl rfl (s_l34Job_j1_ok a0 true _ h)
     refine seq_to hj (.one ⟨_, .done _, [], [], ?_⟩)
     clear hj
     try simp only [go_sem]
    ·replace h := ifF (c := (!v2027)) hb4 h
     try simp only [go_sem]
     replace h := bindE h
     obtain ⟨v2035, hv2035, h⟩ := h
     refine call_i (s_l34Sum_ok _ _ hv2035) ?_
     try simp only [go_sem]
     refine cond_i (fun hb5 => ?_) (fun hb5 => ?_)
     ·replace h := ifT (c := (decide (4000 < (IntKind.i64.wrap (v2035 + a0.left))))) hb5 h
      try simp only [go_sem]
      have hj := posF_to rfl rfl (s_l34Job_j1_ok a0 true _ h)
      refine seq_to hj (.one ⟨_, .done _, [], [], ?_⟩)
      clear hj
      try simp only [go_sem]
     ·replace h := ifF (c := (decide (4000 < (IntKind.i64.wrap (v2035 + a0.left))))) hb5 h
      try simp only [go_sem]
      replace h := bindE h
      obtain ⟨v2049, hv2049, h⟩ := h
      refine call_i (s_l34Most_ok _ _ hv2049) ?_
      try simp only [go_sem]
      replace h := bindE h
      obtain ⟨v2050, hv2050, h⟩ := h
      refine call_i (s_l00In_ok _ _ _ _ hv2050) ?_
      try simp only [go_sem]
      refine cond_i (fun hb6 => ?_) (fun hb6 => ?_)
      ·replace h := ifT (c := (!v2050)) hb6 h
       try simp only [go_sem]
       have hj := posF_to rfl rfl (s_l34Job_j1_ok a0 true _ h)
       refine seq_to hj (.one ⟨_, .done _, [], [], ?_⟩)
       clear hj
       try simp only [go_sem]
      ·replace h := ifF (c := (!v2050)) hb6 h
       try simp only [go_sem]
       replace h := bindE h
       obtain ⟨v2058, hv2058, h⟩ := h
       refine call_i (s_l00In_ok _ _ _ _ hv2058) ?_
       try simp only [go_sem]
       refine cond_i (fun hb7 => ?_) (fun hb7 => ?_)
       ·replace h := ifT (c := (!v2058)) hb7 h
        try simp only [go_sem]
        have hj := posF_to rfl rfl (s_l34Job_j1_ok a0 true _ h)
        refine seq_to hj (.one ⟨_, .done _, [], [], ?_⟩)
        clear hj
        try simp only [go_sem]
       ·replace h := ifF (c := (!v2058)) hb7 h
        try simp only [go_sem]
        have hj := posF_to rfl rfl (s_l34Job_j1_ok a0 (!((decide (a0.state = 3)) == (!decide (a0.code = 0)))) _ h)
        refine seq_to hj (.one ⟨_, .done _, [], [], ?_⟩)
        clear hj
        try simp only [go_sem]
theorem s_l34Ok_l4_all (n : Nat) : (∀ (a0 : Queue) (p1_0 : Int) (p1_1 : Int) (r : Bool), s_l34Ok_l4 n a0 p1_0 p1_1 = some r → posF Tryz.prog Tryz.f57 [1, 1, 1, 0, 1, 0] (.bool r) ⟨[(0, .rop [.int .i64 a0.quantum, .int .i64 a0.nextId, .int .i64 a0.turn, .ro (List.map Job.ds a0.jobs)] 0), (3, .int .i64 p1_0), (4, .int .i64 p1_1)], [], []⟩) ∧
    (∀ (a0 : Queue) (p1_1 : Int) (p2_0 : Bool) (r : Bool), s_l34Ok_j5 n a0 p1_1 p2_0 = some r → posF Tryz.prog Tryz.f57 [1, 1, 1, 0, 1, 0, 0, 1, 0, 0, 0, 1] (.bool r) ⟨[(0, .rop [.int .i64 a0.quantum, .int .i64 a0.nextId, .int .i64 a0.turn, .ro (List.map Job.ds a0.jobs)] 0), (4, .int .i64 p1_1), (77, .bool p2_0)], [], []⟩) := by
 induction n with
 | zero => exact ⟨(fun _ _ _ _ h => by rw [s_l34Ok_l4] at h; cases h), (fun _ _ _ _ h => by rw [s_l34Ok_j5] at h; cases h)⟩
 | succ n ih =>
  obtain ⟨ih0, ih1⟩ := ih
  refine ⟨?_, ?_⟩
  ·intro a0 p1_0 p1_1 r h
   rw [s_l34Ok_l4] at h
   refine posF_of rfl rfl ?_
   try simp only [go_sem]
   refine loop_i ?_
   try simp only [go_sem]
   refine cond_i (fun hb5 => ?_) (fun hb5 => ?_)
   ·replace h := ifT (c := (decide (p1_1 < ((List.length a0.jobs : Nat) : Int)))) hb5 h
    try simp only [go_sem]
    refine seq_go ?_
    try simp only [go_sem]
    refine draw_i [] .fin (by kernel_rfl) ?_
    try simp only [go_sem]
    replace h := bindE h
    obtain ⟨v8005, hv8005, h⟩ := h
    refine idx_m hv8005 (Job.ds_len _) ?_
    try simp only [go_sem]
    replace h := bindE h
    obtain ⟨v8015, hv8015, h⟩ := h
    refine call_i (s_l00In_ok _ _ _ _ hv8015) ?_
    try simp only [go_sem]
    refine cond_i (fun hb6 => ?_) (fun hb6 => ?_)
    ·replace h := ifT (c := (!v8015)) hb6 h
     try simp only [go_sem]
     have hj := posF_to rfl rfl (ih1 a0 p1_1 true _ h)
     refine seq_to hj (.one ⟨_, .done _, [], [], ?_⟩)
     clear hj
     try simp only [go_sem]
    ·replace h := ifF (c := (!v8015)) hb6 h
     try simp only [go_sem]
     replace h := bindE h
     obtain ⟨v8023, hv8023, h⟩ := h
     refine idx_m hv8023 (Job.ds_len _) ?_
     try simp only [go_sem]
     replace h := bindE h
     obtain ⟨v8024, hv8024, h⟩ := h
     refine call_i (s_l34Job_ok _ _ hv8024) ?_
     try simp only [go_sem]
     have hj := posF_to rfl rfl (ih1 a0 p1_1 (!v8024) _ h)
     refine seq_to hj (.one ⟨_, .done _, [], [], ?_⟩)
     clear hj
     try simp only [go_sem]
   ·replace h := ifF (c := (decide (p1_1 < ((List.length a0.jobs : Nat) : Int)))) hb5 h
    try simp only [go_sem]
    refine seq_go ?_
    try simp only [go_sem]
    cases h
    simp only [go_sem]
  ·intro a0 p1_1 p2_0 r h
   rw [s_l34Ok_j5] at h
   refine posF_of rfl rfl ?_
   try simp only [go_sem]
   refine cond_i (fun hb7 => ?_) (fun hb7 => ?_)
   ·replace h := ifT (c := p2_0) hb7 h
    try simp only [go_sem]
    cases h
    simp only [go_sem]
   ·replace h := ifF (c := p2_0) hb7 h
    try simp only [go_sem]
    refine seq_go ?_
    try simp only [go_sem]
    replace h := bindE h
    obtain ⟨v10005, hv10005, h⟩ := h
    refine idx_m hv10005 (Job.ds_len _) ?_
    try simp only [go_sem]
    refine seq_go ?_
    try simp only [go_sem]
    have hj := posF_to rfl rfl (ih0 a0 v10005.id (IntKind.i64.wrap (p1_1 + 1)) _ h)
    refine lp_to hj (.one ⟨_, .done _, [], [], ?_⟩)
    clear hj
    try simp only [go_sem]
theorem s_l34Ok_l4_ok (n : Nat) : (∀ (a0 : Queue) (p1_0 : Int) (p1_1 : Int) (r : Bool), s_l34Ok_l4 n a0 p1_0 p1_1 = some r → posF Tryz.prog Tryz.f57 [1, 1, 1, 0, 1, 0] (.bool r) ⟨[(0, .rop [.int .i64 a0.quantum, .int .i64 a0.nextId, .int .i64 a0.turn, .ro (List.map Job.ds a0.jobs)] 0), (3, .int .i64 p1_0), (4, .int .i64 p1_1)], [], []⟩) := (s_l34Ok_l4_all n).1
theorem s_l34Ok_j5_ok (n : Nat) : (∀ (a0 : Queue) (p1_1 : Int) (p2_0 : Bool) (r : Bool), s_l34Ok_j5 n a0 p1_1 p2_0 = some r → posF Tryz.prog Tryz.f57 [1, 1, 1, 0, 1, 0, 0, 1, 0, 0, 0, 1] (.bool r) ⟨[(0, .rop [.int .i64 a0.quantum, .int .i64 a0.nextId, .int .i64 a0.turn, .ro (List.map Job.ds a0.jobs)] 0), (4, .int .i64 p1_1), (77, .bool p2_0)], [], []⟩) := (s_l34Ok_l4_all n).2
theorem s_l34Ok_j1_ok (a0 : Queue) (p0_0 : Bool) (r : Bool) (h : s_l34Ok_j1 a0 p0_0 = some r) : posF Tryz.prog Tryz.f57 [1, 0, 1] (.bool r) ⟨[(0, .rop [.int .i64 a0.quantum, .int .i64 a0.nextId, .int .i64 a0.turn, .ro (List.map Job.ds a0.jobs)] 0), (41, .bool p0_0)], [], []⟩ := by
 unfold s_l34Ok_j1 at h
 refine posF_of rfl rfl ?_
 try simp only [go_sem]
 refine cond_i (fun hb4 => ?_) (fun hb4 => ?_)
 ·replace h := ifT (c := p0_0) hb4 h
  try simp only [go_sem]
  cases h
  simp only [go_sem]
 ·replace h := ifF (c := p0_0) hb4 h
  try simp only [go_sem]
  refine seq_go ?_
  try simp only [go_sem]
  have hj := posF_to rfl rfl (s_l34Ok_l4_ok fuel a0 0 0 _ h)
  refine loop_to hj (.one ⟨_, .done _, [], [], ?_⟩)
  clear hj
  try simp only [go_sem]
theorem s_l34Ok_ok (a0 : Queue) (r : Bool) (h : s_l34Ok a0 = some r) : AC Tryz.prog 57 [.rop (Queue.avs a0) 0] (.bool r) := by
 unfold s_l34Ok at h
 refine ac_fn mixed Tryz.func57 rfl rfl rfl (by kernel_rfl) (by kernel_rfl) ?_
 try simp only [go_sem]
 refine draw_i [] .fin (by kernel_rfl) ?_
 try simp only [go_sem]
 replace h := bindE h
 obtain ⟨v2004, hv2004, h⟩ := h
 refine call_i (s_l00In_ok _ _ _ _ hv2004) ?_
 try simp only [go_sem]
 refine cond_i (fun hb1 => ?_) (fun hb1 => ?_)
 ·replace h := ifT (c := (!v2004)) hb1 h
  try simp only [go_sem]
  have hj := posF_to rfl rfl (s_l34Ok_j1_ok a0 true _ h)
  refine seq_to hj (.one ⟨_, .done _, [], [], ?_⟩)
  clear hj
  try simp only [go_sem]
 ·replace h := ifF (c := (!v2004)) hb1 h
  try simp only [go_sem]
  replace h := bindE h
  obtain ⟨v2011, hv2011, h⟩ := h
  refine call_i (s_l00In_ok _ _ _ _ hv2011) ?_
  try simp only [go_sem]
  refine cond_i (fun hb2 => ?_) (fun hb2 => ?_)
  ·replace h := ifT (c := (!v2011)) hb2 h
   try simp only [go_sem]
   have hj := posF_to rfl rfl (s_l34Ok_j1_ok a0 true _ h)
   refine seq_to hj (.one ⟨_, .done _, [], [], ?_⟩)
   clear hj
   try simp only [go_sem]
  ·replace h := ifF (c := (!v2011)) hb2 h
   try simp only [go_sem]
   refine cond_i (fun hb3 => ?_) (fun hb3 => ?_)
   ·replace h := ifT (c := (decide (6 < ((List.length a0.jobs : Nat) : Int)))) hb3 h
    try simp only [go_sem]
    have hj := posF_to rfl rfl (s_l34Ok_j1_ok a0 true _ h)
    refine seq_to hj (.one ⟨_, .done _, [], [], ?_⟩)
    clear hj
    try simp only [go_sem]
   ·replace h := ifF (c := (decide (6 < ((List.length a0.jobs : Nat) : Int)))) hb3 h
    try simp only [go_sem]
    replace h := bindE h
    obtain ⟨v2033, hv2033, h⟩ := h
    refine call_i (s_l00Max_ok _ _ _ hv2033) ?_
    try simp only [go_sem]
    replace h := bindE h
    obtain ⟨v2034, hv2034, h⟩ := h
    refine call_i (s_l00In_ok _ _ _ _ hv2034) ?_
    try simp only [go_sem]
    have hj := posF_to rfl rfl (s_l34Ok_j1_ok a0 (!v2034) _ h)
    refine seq_to hj (.one ⟨_, .done _, [], [], ?_⟩)
    clear hj
    try simp only [go_sem]
theorem l_szPortS_ok (a0 : List Port) (a1 : Int) (r : Int) (h : l_szPortS a0 a1 = some r) : AC Tryz.prog 175 [.ro (List.map Port.ds a0), .int .i64 a1] (.int .i64 r) := by
 unfold l_szPortS at h
 refine ac_fn mixed Tryz.func175 rfl rfl rfl (by kernel_rfl) (by kernel_rfl) ?_
 try simp only [go_sem]
 refine cond_i (fun hb1 => ?_) (fun hb1 => ?_)
 ·replace h := ifT (c := (decide ((IntKind.i64.wrap (a1 - ((List.length a0 : Nat) : Int))) < 0))) hb1 h
  try simp only [go_sem]
  cases h
  simp only [go_sem]
 ·replace h := ifF (c := (decide ((IntKind.i64.wrap (a1 - ((List.length a0 : Nat) : Int))) < 0))) hb1 h
  try simp only [go_sem]
  refine seq_go ?_
  try simp only [go_sem]
  cases h
  simp only [go_sem]
theorem l_szAgent_ok (a0 : Agent) (a1 : Int) (r : Int) (h : l_szAgent a0 a1 = some r) : AC Tryz.prog 104 [.agg (Agent.avs a0), .int .i64 a1] (.int .i64 r) := by
 unfold l_szAgent at h
 refine ac_fn mixed Tryz.func104 rfl rfl rfl (by kernel_rfl) (by kernel_rfl) ?_
 try simp only [go_sem]
 replace h := bindE h
 obtain ⟨v2003, hv2003, h⟩ := h
 refine call_i (l_szInt64S_ok _ _ _ hv2003) ?_
 try simp only [go_sem]
 refine seq_go ?_
 try simp only [go_sem]
 refine cond_i (fun hb1 => ?_) (fun hb1 => ?_)
 ·replace h := ifT (c := (decide (v2003 < 0))) hb1 h
  try simp only [go_sem]
  cases h
  simp only [go_sem]
 ·replace h := ifF (c := (decide (v2003 < 0))) hb1 h
  try simp only [go_sem]
  refine seq_go ?_
  try simp only [go_sem]
  replace h := bindE h
  obtain ⟨v5003, hv5003, h⟩ := h
  refine call_i (l_szPortS_ok _ _ _ hv5003) ?_
  try simp only [go_sem]
  refine seq_go ?_
  try simp only [go_sem]
  refine cond_i (fun hb2 => ?_) (fun hb2 => ?_)
  ·replace h := ifT (c := (decide (v5003 < 0))) hb2 h
   try simp only [go_sem]
   cases h
   simp only [go_sem]
  ·replace h := ifF (c := (decide (v5003 < 0))) hb2 h
   try simp only [go_sem]
   refine seq_go ?_
   try simp only [go_sem]
   cases h
   simp only [go_sem]
theorem l_szAgentS_l1_ok (n : Nat) : (∀ (a0 : List Agent) (p0_0 : Int) (p0_1 : Int) (r : Int), l_szAgentS_l1 n a0 p0_0 p0_1 = some r → posF Tryz.prog Tryz.f56 [1, 1, 1, 0, 1, 0] (.int .i64 r) ⟨[(0, .ro (List.map Agent.ds a0)), (1, .int .i64 p0_0), (5, .int .i64 p0_1)], [], []⟩) := by
 induction n with
 | zero => exact ((fun _ _ _ _ h => by rw [l_szAgentS_l1] at h; cases h))
 | succ n ih =>
  have ih0 := ih
  ·intro a0 p0_0 p0_1 r h
   rw [l_szAgentS_l1] at h
   refine posF_of rfl rfl ?_
   try simp only [go_sem]
   refine loop_i ?_
   try simp only [go_sem]
   refine cond_i (fun hb2 => ?_) (fun hb2 => ?_)
   ·replace h := ifT (c := (decide (p0_1 < ((List.length a0 : Nat) : Int)))) hb2 h
    try simp only [go_sem]
    refine seq_go ?_
    try simp only [go_sem]
    replace h := bindE h
    obtain ⟨v8002, hv8002, h⟩ := h
    refine idx_m hv8002 (Agent.ds_len _) ?_
    try simp only [go_sem]
    replace h := bindE h
    obtain ⟨v8005, hv8005, h⟩ := h
    refine call_i (l_szAgent_ok _ _ _ hv8005) ?_
    try simp only [go_sem]
    refine seq_go ?_
    try simp only [go_sem]
    refine cond_i (fun hb3 => ?_) (fun hb3 => ?_)
    ·replace h := ifT (c := (decide (v8005 < 0))) hb3 h
     try simp only [go_sem]
     cases h
     simp only [go_sem]
    ·replace h := ifF (c := (decide (v8005 < 0))) hb3 h
     try simp only [go_sem]
     refine seq_go ?_
     try simp only [go_sem]
     have hj := posF_to rfl rfl (ih0 a0 v8005 (IntKind.i64.wrap (p0_1 + 1)) _ h)
     refine lp_to hj (.one ⟨_, .done _, [], [], ?_⟩)
     clear hj
     try simp only [go_sem]
   ·replace h := ifF (c := (decide (p0_1 < ((List.length a0 : Nat) : Int)))) hb2 h
    try simp only [go_sem]
    refine seq_go ?_
    try simp only [go_sem]
    cases h
    simp only [go_sem]
theorem l_szAgentS_ok (a0 : List Agent) (a1 : Int) (r : Int) (h : l_szAgentS a0 a1 = some r) : AC Tryz.prog 56 [.ro (List.map Agent.ds a0), .int .i64 a1] (.int .i64 r) := by
 unfold l_szAgentS at h
 refine ac_fn mixed Tryz.func56 rfl rfl rfl (by kernel_rfl) (by kernel_rfl) ?_
 try simp only [go_sem]
 refine cond_i (fun hb1 => ?_) (fun hb1 => ?_)
 ·replace h := ifT (c := (decide ((IntKind.i64.wrap (a1 - ((List.length a0 : Nat) : Int))) < 0))) hb1 h
  try simp only [go_sem]
  cases h
  simp only [go_sem]
 ·replace h := ifF (c := (decide ((IntKind.i64.wrap (a1 - ((List.length a0 : Nat) : Int))) < 0))) hb1 h
  try simp only [go_sem]
  refine seq_go ?_
  try simp only [go_sem]
  have hj := posF_to rfl rfl (l_szAgentS_l1_ok fuel a0 (IntKind.i64.wrap (a1 - ((List.length a0 : Nat) : Int))) 0 _ h)
  refine loop_to hj (.one ⟨_, .done _, [], [], ?_⟩)
  clear hj
  try simp only [go_sem]
theorem l_szNet_ok (a0 : Net) (a1 : Int) (r : Int) (h : l_szNet a0 a1 = some r) : AC Tryz.prog 14 [.agg (Net.avs a0), .int .i64 a1] (.int .i64 r) := by
 unfold l_szNet at h
 refine ac_fn mixed Tryz.func14 rfl rfl rfl (by kernel_rfl) (by kernel_rfl) ?_
 try simp only [go_sem]
 replace h := bindE h
 obtain ⟨v2003, hv2003, h⟩ := h
 refine call_i (l_szAgentS_ok _ _ _ hv2003) ?_
 try simp only [go_sem]
 refine seq_go ?_
 try simp only [go_sem]
 refine cond_i (fun hb1 => ?_) (fun hb1 => ?_)
 ·replace h := ifT (c := (decide (v2003 < 0))) hb1 h
  try simp only [go_sem]
  cases h
  simp only [go_sem]
 ·replace h := ifF (c := (decide (v2003 < 0))) hb1 h
  try simp only [go_sem]
  refine seq_go ?_
  try simp only [go_sem]
  cases h
  simp only [go_sem]
theorem l_szNetS_l1_ok (n : Nat) : (∀ (a0 : List Net) (p0_0 : Int) (p0_1 : Int) (r : Int), l_szNetS_l1 n a0 p0_0 p0_1 = some r → posF Tryz.prog Tryz.f13 [1, 1, 1, 0, 1, 0] (.int .i64 r) ⟨[(0, .ro (List.map Net.ds a0)), (1, .int .i64 p0_0), (5, .int .i64 p0_1)], [], []⟩) := by
 induction n with
 | zero => exact ((fun _ _ _ _ h => by rw [l_szNetS_l1] at h; cases h))
 | succ n ih =>
  have ih0 := ih
  ·intro a0 p0_0 p0_1 r h
   rw [l_szNetS_l1] at h
   refine posF_of rfl rfl ?_
   try simp only [go_sem]
   refine loop_i ?_
   try simp only [go_sem]
   refine cond_i (fun hb2 => ?_) (fun hb2 => ?_)
   ·replace h := ifT (c := (decide (p0_1 < ((List.length a0 : Nat) : Int)))) hb2 h
    try simp only [go_sem]
    refine seq_go ?_
    try simp only [go_sem]
    replace h := bindE h
    obtain ⟨v8002, hv8002, h⟩ := h
    refine idx_m hv8002 (Net.ds_len _) ?_
    try simp only [go_sem]
    replace h := bindE h
    obtain ⟨v8005, hv8005, h⟩ := h
    refine call_i (l_szNet_ok _ _ _ hv8005) ?_
    try simp only [go_sem]
    refine seq_go ?_
    try simp only [go_sem]
    refine cond_i (fun hb3 => ?_) (fun hb3 => ?_)
    ·replace h := ifT (c := (decide (v8005 < 0))) hb3 h
     try simp only [go_sem]
     cases h
     simp only [go_sem]
    ·replace h := ifF (c := (decide (v8005 < 0))) hb3 h
     try simp only [go_sem]
     refine seq_go ?_
     try simp only [go_sem]
     have hj := posF_to rfl rfl (ih0 a0 v8005 (IntKind.i64.wrap (p0_1 + 1)) _ h)
     refine lp_to hj (.one ⟨_, .done _, [], [], ?_⟩)
     clear hj
     try simp only [go_sem]
   ·replace h := ifF (c := (decide (p0_1 < ((List.length a0 : Nat) : Int)))) hb2 h
    try simp only [go_sem]
    refine seq_go ?_
    try simp only [go_sem]
    cases h
    simp only [go_sem]
theorem l_szNetS_ok (a0 : List Net) (a1 : Int) (r : Int) (h : l_szNetS a0 a1 = some r) : AC Tryz.prog 13 [.ro (List.map Net.ds a0), .int .i64 a1] (.int .i64 r) := by
 unfold l_szNetS at h
 refine ac_fn mixed Tryz.func13 rfl rfl rfl (by kernel_rfl) (by kernel_rfl) ?_
 try simp only [go_sem]
 refine cond_i (fun hb1 => ?_) (fun hb1 => ?_)
 ·replace h := ifT (c := (decide ((IntKind.i64.wrap (a1 - ((List.length a0 : Nat) : Int))) < 0))) hb1 h
  try simp only [go_sem]
  cases h
  simp only [go_sem]
 ·replace h := ifF (c := (decide ((IntKind.i64.wrap (a1 - ((List.length a0 : Nat) : Int))) < 0))) hb1 h
  try simp only [go_sem]
  refine seq_go ?_
  try simp only [go_sem]
  have hj := posF_to rfl rfl (l_szNetS_l1_ok fuel a0 (IntKind.i64.wrap (a1 - ((List.length a0 : Nat) : Int))) 0 _ h)
  refine loop_to hj (.one ⟨_, .done _, [], [], ?_⟩)
  clear hj
  try simp only [go_sem]
theorem l_szJob_ok (a0 : Job) (a1 : Int) (r : Int) (h : l_szJob a0 a1 = some r) : AC Tryz.prog 103 [.agg (Job.avs a0), .int .i64 a1] (.int .i64 r) := by
 unfold l_szJob at h
 refine ac_fn mixed Tryz.func103 rfl rfl rfl (by kernel_rfl) (by kernel_rfl) ?_
 try simp only [go_sem]
 replace h := bindE h
 obtain ⟨v2003, hv2003, h⟩ := h
 refine call_i (l_szInt64S_ok _ _ _ hv2003) ?_
 try simp only [go_sem]
 refine seq_go ?_
 try simp only [go_sem]
 refine cond_i (fun hb1 => ?_) (fun hb1 => ?_)
 ·replace h := ifT (c := (decide (v2003 < 0))) hb1 h
  try simp only [go_sem]
  cases h
  simp only [go_sem]
 ·replace h := ifF (c := (decide (v2003 < 0))) hb1 h
  try simp only [go_sem]
  refine seq_go ?_
  try simp only [go_sem]
  replace h := bindE h
  obtain ⟨v5003, hv5003, h⟩ := h
  refine call_i (l_szInt64S_ok _ _ _ hv5003) ?_
  try simp only [go_sem]
  refine seq_go ?_
  try simp only [go_sem]
  refine cond_i (fun hb2 => ?_) (fun hb2 => ?_)
  ·replace h := ifT (c := (decide (v5003 < 0))) hb2 h
   try simp only [go_sem]
   cases h
   simp only [go_sem]
  ·replace h := ifF (c := (decide (v5003 < 0))) hb2 h
   try simp only [go_sem]
   refine seq_go ?_
   try simp only [go_sem]
   replace h := bindE h
   obtain ⟨v8003, hv8003, h⟩ := h
   refine call_i (l_szNetS_ok _ _ _ hv8003) ?_
   try simp only [go_sem]
   refine seq_go ?_
   try simp only [go_sem]
   refine cond_i (fun hb3 => ?_) (fun hb3 => ?_)
   ·replace h := ifT (c := (decide (v8003 < 0))) hb3 h
    try simp only [go_sem]
    cases h
    simp only [go_sem]
   ·replace h := ifF (c := (decide (v8003 < 0))) hb3 h
    try simp only [go_sem]
    refine seq_go ?_
    try simp only [go_sem]
    replace h := bindE h
    obtain ⟨v11003, hv11003, h⟩ := h
    refine call_i (l_szNet_ok _ _ _ hv11003) ?_
    try simp only [go_sem]
    refine seq_go ?_
    try simp only [go_sem]
    refine cond_i (fun hb4 => ?_) (fun hb4 => ?_)
    ·replace h := ifT (c := (decide (v11003 < 0))) hb4 h
     try simp only [go_sem]
     cases h
     simp only [go_sem]
    ·replace h := ifF (c := (decide (v11003 < 0))) hb4 h
     try simp only [go_sem]
     refine seq_go ?_
     try simp only [go_sem]
     cases h
     simp only [go_sem]
theorem l_szJobS_l1_ok (n : Nat) : (∀ (a0 : List Job) (p0_0 : Int) (p0_1 : Int) (r : Int), l_szJobS_l1 n a0 p0_0 p0_1 = some r → posF Tryz.prog Tryz.f55 [1, 1, 1, 0, 1, 0] (.int .i64 r) ⟨[(0, .ro (List.map Job.ds a0)), (1, .int .i64 p0_0), (5, .int .i64 p0_1)], [], []⟩) := by
 induction n with
 | zero => exact ((fun _ _ _ _ h => by rw [l_szJobS_l1] at h; cases h))
 | succ n ih =>
  have ih0 := ih
  ·intro a0 p0_0 p0_1 r h
   rw [l_szJobS_l1] at h
   refine posF_of rfl rfl ?_
   try simp only [go_sem]
   refine loop_i ?_
   try simp only [go_sem]
   refine cond_i (fun hb2 => ?_) (fun hb2 => ?_)
   ·replace h := ifT (c := (decide (p0_1 < ((List.length a0 : Nat) : Int)))) hb2 h
    try simp only [go_sem]
    refine seq_go ?_
    try simp only [go_sem]
    replace h := bindE h
    obtain ⟨v8002, hv8002, h⟩ := h
    refine idx_m hv8002 (Job.ds_len _) ?_
    try simp only [go_sem]
    replace h := bindE h
    obtain ⟨v8005, hv8005, h⟩ := h
    refine call_i (l_szJob_ok _ _ _ hv8005) ?_
    try simp only [go_sem]
    refine seq_go ?_
    try simp only [go_sem]
    refine cond_i (fun hb3 => ?_) (fun hb3 => ?_)
    ·replace h := ifT (c := (decide (v8005 < 0))) hb3 h
     try simp only [go_sem]
     cases h
     simp only [go_sem]
    ·replace h := ifF (c := (decide (v8005 < 0))) hb3 h
     try simp only [go_sem]
     refine seq_go ?_
     try simp only [go_sem]
     have hj := posF_to rfl rfl (ih0 a0 v8005 (IntKind.i64.wrap (p0_1 + 1)) _ h)
     refine lp_to hj (.one ⟨_, .done _, [], [], ?_⟩)
     clear hj
     try simp only [go_sem]
   ·replace h := ifF (c := (decide (p0_1 < ((List.length a0 : Nat) : Int)))) hb2 h
    try simp only [go_sem]
    refine seq_go ?_
    try simp only [go_sem]
    cases h
    simp only [go_sem]
theorem l_szJobS_ok (a0 : List Job) (a1 : Int) (r : Int) (h : l_szJobS a0 a1 = some r) : AC Tryz.prog 55 [.ro (List.map Job.ds a0), .int .i64 a1] (.int .i64 r) := by
 unfold l_szJobS at h
 refine ac_fn mixed Tryz.func55 rfl rfl rfl (by kernel_rfl) (by kernel_rfl) ?_
 try simp only [go_sem]
 refine cond_i (fun hb1 => ?_) (fun hb1 => ?_)
 ·replace h := ifT (c := (decide ((IntKind.i64.wrap (a1 - ((List.length a0 : Nat) : Int))) < 0))) hb1 h
  try simp only [go_sem]
  cases h
  simp only [go_sem]
 ·replace h := ifF (c := (decide ((IntKind.i64.wrap (a1 - ((List.length a0 : Nat) : Int))) < 0))) hb1 h
  try simp only [go_sem]
  refine seq_go ?_
  try simp only [go_sem]
  have hj := posF_to rfl rfl (l_szJobS_l1_ok fuel a0 (IntKind.i64.wrap (a1 - ((List.length a0 : Nat) : Int))) 0 _ h)
  refine loop_to hj (.one ⟨_, .done _, [], [], ?_⟩)
  clear hj
  try simp only [go_sem]
theorem l_szQueue_ok (a0 : Queue) (a1 : Int) (r : Int) (h : l_szQueue a0 a1 = some r) : AC Tryz.prog 12 [.agg (Queue.avs a0), .int .i64 a1] (.int .i64 r) := by
 unfold l_szQueue at h
 refine ac_fn mixed Tryz.func12 rfl rfl rfl (by kernel_rfl) (by kernel_rfl) ?_
 try simp only [go_sem]
 replace h := bindE h
 obtain ⟨v2003, hv2003, h⟩ := h
 refine call_i (l_szJobS_ok _ _ _ hv2003) ?_
 try simp only [go_sem]
 refine seq_go ?_
 try simp only [go_sem]
 refine cond_i (fun hb1 => ?_) (fun hb1 => ?_)
 ·replace h := ifT (c := (decide (v2003 < 0))) hb1 h
  try simp only [go_sem]
  cases h
  simp only [go_sem]
 ·replace h := ifF (c := (decide (v2003 < 0))) hb1 h
  try simp only [go_sem]
  refine seq_go ?_
  try simp only [go_sem]
  cases h
  simp only [go_sem]
theorem l_toPort_ok (a0 : Port) (r : Port) (h : l_toPort a0 = some r) : AC Tryz.prog 218 [.agg (Port.avs a0)] (.agg (Port.rv r)) := by
 unfold l_toPort at h
 refine ac_fn mixed Tryz.func218 rfl rfl rfl (by kernel_rfl) (by kernel_rfl) ?_
 try simp only [go_sem]
 cases h
 simp only [go_sem]
theorem l_toPortS_l2_ok (n : Nat) : (∀ (a0 : List Port) (p1_0 : List Port) (p1_1 : Int) (r : (List Port)), l_toPortS_l2 n a0 p1_0 p1_1 = some r → posF Tryz.prog Tryz.f180 [1, 1, 0, 1, 0] (.ow (some 2) (List.map Port.ds r)) ⟨[(0, .ro (List.map Port.ds a0)), (3, .own 1000001000), (4, .int .i64 p1_1)], [(1000001000, some ⟨List.map Port.ds p1_0, some 2, 0, false⟩)], []⟩) := by
 induction n with
 | zero => exact ((fun _ _ _ _ h => by rw [l_toPortS_l2] at h; cases h))
 | succ n ih =>
  have ih0 := ih
  ·intro a0 p1_0 p1_1 r h
   rw [l_toPortS_l2] at h
   refine posF_of rfl rfl ?_
   try simp only [go_sem]
   refine loop_i ?_
   try simp only [go_sem]
   refine cond_i (fun hb1 => ?_) (fun hb1 => ?_)
   ·replace h := ifT (c := (decide (p1_1 < ((List.length a0 : Nat) : Int)))) hb1 h
    try simp only [go_sem]
    refine seq_go ?_
    try simp only [go_sem]
    replace h := bindE h
    obtain ⟨v6004, hv6004, h⟩ := h
    refine idx_m hv6004 (Port.ds_len _) ?_
    try simp only [go_sem]
    replace h := bindE h
    obtain ⟨v6006, hv6006, h⟩ := h
    refine call_i (l_toPort_ok _ _ hv6006) ?_
    try simp only [go_sem]
    replace h := bindE h
    obtain ⟨v6007, hv6007, h⟩ := h
    refine idx_m hv6007 (Port.ds_len _) ?_
    try simp only [go_sem]
    replace h := bindE h
    obtain ⟨v6008_12, hv6008_12, h⟩ := h
    refine opt_i (row_m hv6007) ?_
    try simp only [go_sem]
    refine row_i (List.map Port.ds v6008_12) (by rw [← set1_some hv6008_12]; simp only [List.map_set, go_sem, Port.ds_eq]) ?_
    try simp only [go_sem]
    refine seq_go ?_
    try simp only [go_sem]
    have hj := posF_to rfl rfl (ih0 a0 v6008_12 (IntKind.i64.wrap (p1_1 + 1)) _ h)
    refine lp_to hj (.one ⟨_, .done _, [(1000001000, 1000001000)], [], ?_⟩)
    clear hj
    try simp only [go_sem]
   ·replace h := ifF (c := (decide (p1_1 < ((List.length a0 : Nat) : Int)))) hb1 h
    try simp only [go_sem]
    refine seq_go ?_
    try simp only [go_sem]
    cases h
    simp only [go_sem]
theorem l_toPortS_ok (a0 : List Port) (r : (List Port)) (h : l_toPortS a0 = some r) : AC Tryz.prog 180 [.ro (List.map Port.ds a0)] (.ow (some 2) (List.map Port.ds r)) := by
 unfold l_toPortS at h
 refine ac_fn mixed Tryz.func180 rfl rfl rfl (by kernel_rfl) (by kernel_rfl) ?_
 try simp only [go_sem]
 replace h := bindE h
 obtain ⟨v2002, hv2002, h⟩ := h
 have hq_ := rep_some hv2002
 obtain ⟨hv2002a, hv2002b, hv2002c⟩ := hq_
 refine and_i (by refine ⟨?_, ?_, ?_⟩ <;> omega) ?_
 try simp only [go_sem]
 refine row_i (List.map Port.ds v2002) (by rw [← hv2002c]; simp only [List.map_replicate, go_sem, Port.ds_eq]) ?_
 try simp only [go_sem]
 refine seq_go ?_
 try simp only [go_sem]
 have hj := posF_to rfl rfl (l_toPortS_l2_ok fuel a0 v2002 0 _ h)
 refine loop_to hj (.one ⟨_, .done _, [(1000001000, 32032)], [], ?_⟩)
 clear hj
 try simp only [go_sem]
theorem l_toAgent_ok (a0 : Agent) (r : Agent) (h : l_toAgent a0 = some r) : AC Tryz.prog 110 [.agg (Agent.avs a0)] (.agg (Agent.rv r)) := by
 unfold l_toAgent at h
 refine ac_fn mixed Tryz.func110 rfl rfl rfl (by kernel_rfl) (by kernel_rfl) ?_
 try simp only [go_sem]
 replace h := bindE h
 obtain ⟨v6002, hv6002, h⟩ := h
 refine call_i (l_toInt64S_ok _ _ hv6002) ?_
 try simp only [go_sem]
 refine seq_go ?_
 try simp only [go_sem]
 replace h := bindE h
 obtain ⟨v7002, hv7002, h⟩ := h
 refine call_i (l_toPortS_ok _ _ hv7002) ?_
 try simp only [go_sem]
 refine seq_go ?_
 try simp only [go_sem]
 cases h
 simp only [go_sem]
theorem l_toAgentS_l2_ok (n : Nat) : (∀ (a0 : List Agent) (p1_0 : List Agent) (p1_1 : Int) (r : (List Agent)), l_toAgentS_l2 n a0 p1_0 p1_1 = some r → posF Tryz.prog Tryz.f63 [1, 1, 0, 1, 0] (.ow (some 5) (List.map Agent.ds r)) ⟨[(0, .ro (List.map Agent.ds a0)), (3, .own 1000001000), (4, .int .i64 p1_1)], [(1000001000, some ⟨List.map Agent.ds p1_0, some 5, 0, false⟩)], []⟩) := by
 induction n with
 | zero => exact ((fun _ _ _ _ h => by rw [l_toAgentS_l2] at h; cases h))
 | succ n ih =>
  have ih0 := ih
  ·intro a0 p1_0 p1_1 r h
   rw [l_toAgentS_l2] at h
   refine posF_of rfl rfl ?_
   try simp only [go_sem]
   refine loop_i ?_
   try simp only [go_sem]
   refine cond_i (fun hb1 => ?_) (fun hb1 => ?_)
   ·replace h := ifT (c := (decide (p1_1 < ((List.length a0 : Nat) : Int)))) hb1 h
    try simp only [go_sem]
    refine seq_go ?_
    try simp only [go_sem]
    replace h := bindE h
    obtain ⟨v6004, hv6004, h⟩ := h
    refine idx_m hv6004 (Agent.ds_len _) ?_
    try simp only [go_sem]
    replace h := bindE h
    obtain ⟨v6006, hv6006, h⟩ := h
    refine call_i (l_toAgent_ok _ _ hv6006) ?_
    try simp only [go_sem]
    replace h := bindE h
    obtain ⟨v6007, hv6007, h⟩ := h
    refine idx_m hv6007 (Agent.ds_len _) ?_
    try simp only [go_sem]
    replace h := bindE h
    obtain ⟨v6008_12, hv6008_12, h⟩ := h
    refine opt_i (row_m hv6007) ?_
    try simp only [go_sem]
    refine row_i (List.map Agent.ds v6008_12) (by rw [← set1_some hv6008_12]; simp only [List.map_set, go_sem, Agent.ds_eq]) ?_
    try simp only [go_sem]
    refine seq_go ?_
    try simp only [go_sem]
    have hj := posF_to rfl rfl (ih0 a0 v6008_12 (IntKind.i64.wrap (p1_1 + 1)) _ h)
    refine lp_to hj (.one ⟨_, .done _, [(1000001000, 1000001000)], [], ?_⟩)
    clear hj
    try simp only [go_sem]
   ·replace h := ifF (c := (decide (p1_1 < ((List.length a0 : Nat) : Int)))) hb1 h
    try simp only [go_sem]
    refine seq_go ?_
    try simp only [go_sem]
    cases h
    simp only [go_sem]
theorem l_toAgentS_ok (a0 : List Agent) (r : (List Agent)) (h : l_toAgentS a0 = some r) : AC Tryz.prog 63 [.ro (List.map Agent.ds a0)] (.ow (some 5) (List.map Agent.ds r)) := by
 unfold l_toAgentS at h
 refine ac_fn mixed Tryz.func63 rfl rfl rfl (by kernel_rfl) (by kernel_rfl) ?_
 try simp only [go_sem]
 replace h := bindE h
 obtain ⟨v2002, hv2002, h⟩ := h
 have hq_ := rep_some hv2002
 obtain ⟨hv2002a, hv2002b, hv2002c⟩ := hq_
 refine and_i (by refine ⟨?_, ?_, ?_⟩ <;> omega) ?_
 try simp only [go_sem]
 refine row_i (List.map Agent.ds v2002) (by rw [← hv2002c]; simp only [List.map_replicate, go_sem, Agent.ds_eq]) ?_
 try simp only [go_sem]
 refine seq_go ?_
 try simp only [go_sem]
 have hj := posF_to rfl rfl (l_toAgentS_l2_ok fuel a0 v2002 0 _ h)
 refine loop_to hj (.one ⟨_, .done _, [(1000001000, 32032)], [], ?_⟩)
 clear hj
 try simp only [go_sem]
theorem l_toNet_ok (a0 : Net) (r : Net) (h : l_toNet a0 = some r) : AC Tryz.prog 18 [.agg (Net.avs a0)] (.agg (Net.rv r)) := by
 unfold l_toNet at h
 refine ac_fn mixed Tryz.func18 rfl rfl rfl (by kernel_rfl) (by kernel_rfl) ?_
 try simp only [go_sem]
 replace h := bindE h
 obtain ⟨v3002, hv3002, h⟩ := h
 refine call_i (l_toAgentS_ok _ _ hv3002) ?_
 try simp only [go_sem]
 refine seq_go ?_
 try simp only [go_sem]
 cases h
 simp only [go_sem]
theorem l_toNetS_l2_ok (n : Nat) : (∀ (a0 : List Net) (p1_0 : List Net) (p1_1 : Int) (r : (List Net)), l_toNetS_l2 n a0 p1_0 p1_1 = some r → posF Tryz.prog Tryz.f17 [1, 1, 0, 1, 0] (.ow (some 1) (List.map Net.ds r)) ⟨[(0, .ro (List.map Net.ds a0)), (3, .own 1000001000), (4, .int .i64 p1_1)], [(1000001000, some ⟨List.map Net.ds p1_0, some 1, 0, false⟩)], []⟩) := by
 induction n with
 | zero => exact ((fun _ _ _ _ h => by rw [l_toNetS_l2] at h; cases h))
 | succ n ih =>
  have ih0 := ih
  ·intro a0 p1_0 p1_1 r h
   rw [l_toNetS_l2] at h
   refine posF_of rfl rfl ?_
   try simp only [go_sem]
   refine loop_i ?_
   try simp only [go_sem]
   refine cond_i (fun hb1 => ?_) (fun hb1 => ?_)
   ·replace h := ifT (c := (decide (p1_1 < ((List.length a0 : Nat) : Int)))) hb1 h
    try simp only [go_sem]
    refine seq_go ?_
    try simp only [go_sem]
    replace h := bindE h
    obtain ⟨v6004, hv6004, h⟩ := h
    refine idx_m hv6004 (Net.ds_len _) ?_
    try simp only [go_sem]
    replace h := bindE h
    obtain ⟨v6006, hv6006, h⟩ := h
    refine call_i (l_toNet_ok _ _ hv6006) ?_
    try simp only [go_sem]
    replace h := bindE h
    obtain ⟨v6007, hv6007, h⟩ := h
    refine idx_m hv6007 (Net.ds_len _) ?_
    try simp only [go_sem]
    replace h := bindE h
    obtain ⟨v6008_12, hv6008_12, h⟩ := h
    refine opt_i (row_m hv6007) ?_
    try simp only [go_sem]
    refine row_i (List.map Net.ds v6008_12) (by rw [← set1_some hv6008_12]; simp only [List.map_set, go_sem, Net.ds_eq]) ?_
    try simp only [go_sem]
    refine seq_go ?_
    try simp only [go_sem]
    have hj := posF_to rfl rfl (ih0 a0 v6008_12 (IntKind.i64.wrap (p1_1 + 1)) _ h)
    refine lp_to hj (.one ⟨_, .done _, [(1000001000, 1000001000)], [], ?_⟩)
    clear hj
    try simp only [go_sem]
   ·replace h := ifF (c := (decide (p1_1 < ((List.length a0 : Nat) : Int)))) hb1 h
    try simp only [go_sem]
    refine seq_go ?_
    try simp only [go_sem]
    cases h
    simp only [go_sem]
theorem l_toNetS_ok (a0 : List Net) (r : (List Net)) (h : l_toNetS a0 = some r) : AC Tryz.prog 17 [.ro (List.map Net.ds a0)] (.ow (some 1) (List.map Net.ds r)) := by
 unfold l_toNetS at h
 refine ac_fn mixed Tryz.func17 rfl rfl rfl (by kernel_rfl) (by kernel_rfl) ?_
 try simp only [go_sem]
 replace h := bindE h
 obtain ⟨v2002, hv2002, h⟩ := h
 have hq_ := rep_some hv2002
 obtain ⟨hv2002a, hv2002b, hv2002c⟩ := hq_
 refine and_i (by refine ⟨?_, ?_, ?_⟩ <;> omega) ?_
 try simp only [go_sem]
 refine row_i (List.map Net.ds v2002) (by rw [← hv2002c]; simp only [List.map_replicate, go_sem, Net.ds_eq]) ?_
 try simp only [go_sem]
 refine seq_go ?_
 try simp only [go_sem]
 have hj := posF_to rfl rfl (l_toNetS_l2_ok fuel a0 v2002 0 _ h)
 refine loop_to hj (.one ⟨_, .done _, [(1000001000, 32032)], [], ?_⟩)
 clear hj
 try simp only [go_sem]
theorem l_toJob_ok (a0 : Job) (r : Job) (h : l_toJob a0 = some r) : AC Tryz.prog 109 [.agg (Job.avs a0)] (.agg (Job.rv r)) := by
 unfold l_toJob at h
 refine ac_fn mixed Tryz.func109 rfl rfl rfl (by kernel_rfl) (by kernel_rfl) ?_
 try simp only [go_sem]
 replace h := bindE h
 obtain ⟨v9002, hv9002, h⟩ := h
 refine call_i (l_toInt64S_ok _ _ hv9002) ?_
 try simp only [go_sem]
 refine seq_go ?_
 try simp only [go_sem]
 replace h := bindE h
 obtain ⟨v10002, hv10002, h⟩ := h
 refine call_i (l_toInt64S_ok _ _ hv10002) ?_
 try simp only [go_sem]
 refine seq_go ?_
 try simp only [go_sem]
 replace h := bindE h
 obtain ⟨v11002, hv11002, h⟩ := h
 refine call_i (l_toNetS_ok _ _ hv11002) ?_
 try simp only [go_sem]
 refine seq_go ?_
 try simp only [go_sem]
 replace h := bindE h
 obtain ⟨v12002, hv12002, h⟩ := h
 refine call_i (l_toNet_ok _ _ hv12002) ?_
 try simp only [go_sem]
 refine seq_go ?_
 try simp only [go_sem]
 cases h
 simp only [go_sem]
theorem l_toJobS_l2_ok (n : Nat) : (∀ (a0 : List Job) (p1_0 : List Job) (p1_1 : Int) (r : (List Job)), l_toJobS_l2 n a0 p1_0 p1_1 = some r → posF Tryz.prog Tryz.f62 [1, 1, 0, 1, 0] (.ow (some 10) (List.map Job.ds r)) ⟨[(0, .ro (List.map Job.ds a0)), (3, .own 1000001000), (4, .int .i64 p1_1)], [(1000001000, some ⟨List.map Job.ds p1_0, some 10, 0, false⟩)], []⟩) := by
 induction n with
 | zero => exact ((fun _ _ _ _ h => by rw [l_toJobS_l2] at h; cases h))
 | succ n ih =>
  have ih0 := ih
  ·intro a0 p1_0 p1_1 r h
   rw [l_toJobS_l2] at h
   refine posF_of rfl rfl ?_
   try simp only [go_sem]
   refine loop_i ?_
   try simp only [go_sem]
   refine cond_i (fun hb1 => ?_) (fun hb1 => ?_)
   ·replace h := ifT (c := (decide (p1_1 < ((List.length a0 : Nat) : Int)))) hb1 h
    try simp only [go_sem]
    refine seq_go ?_
    try simp only [go_sem]
    replace h := bindE h
    obtain ⟨v6004, hv6004, h⟩ := h
    refine idx_m hv6004 (Job.ds_len _) ?_
    try simp only [go_sem]
    replace h := bindE h
    obtain ⟨v6006, hv6006, h⟩ := h
    refine call_i (l_toJob_ok _ _ hv6006) ?_
    try simp only [go_sem]
    replace h := bindE h
    obtain ⟨v6007, hv6007, h⟩ := h
    refine idx_m hv6007 (Job.ds_len _) ?_
    try simp only [go_sem]
    replace h := bindE h
    obtain ⟨v6008_12, hv6008_12, h⟩ := h
    refine opt_i (row_m hv6007) ?_
    try simp only [go_sem]
    refine row_i (List.map Job.ds v6008_12) (by rw [← set1_some hv6008_12]; simp only [List.map_set, go_sem, Job.ds_eq]) ?_
    try simp only [go_sem]
    refine seq_go ?_
    try simp only [go_sem]
    have hj := posF_to rfl rfl (ih0 a0 v6008_12 (IntKind.i64.wrap (p1_1 + 1)) _ h)
    refine lp_to hj (.one ⟨_, .done _, [(1000001000, 1000001000)], [], ?_⟩)
    clear hj
    try simp only [go_sem]
   ·replace h := ifF (c := (decide (p1_1 < ((List.length a0 : Nat) : Int)))) hb1 h
    try simp only [go_sem]
    refine seq_go ?_
    try simp only [go_sem]
    cases h
    simp only [go_sem]
theorem l_toJobS_ok (a0 : List Job) (r : (List Job)) (h : l_toJobS a0 = some r) : AC Tryz.prog 62 [.ro (List.map Job.ds a0)] (.ow (some 10) (List.map Job.ds r)) := by
 unfold l_toJobS at h
 refine ac_fn mixed Tryz.func62 rfl rfl rfl (by kernel_rfl) (by kernel_rfl) ?_
 try simp only [go_sem]
 replace h := bindE h
 obtain ⟨v2002, hv2002, h⟩ := h
 have hq_ := rep_some hv2002
 obtain ⟨hv2002a, hv2002b, hv2002c⟩ := hq_
 refine and_i (by refine ⟨?_, ?_, ?_⟩ <;> omega) ?_
 try simp only [go_sem]
 refine row_i (List.map Job.ds v2002) (by rw [← hv2002c]; simp only [List.map_replicate, go_sem, Job.ds_eq]) ?_
 try simp only [go_sem]
 refine seq_go ?_
 try simp only [go_sem]
 have hj := posF_to rfl rfl (l_toJobS_l2_ok fuel a0 v2002 0 _ h)
 refine loop_to hj (.one ⟨_, .done _, [(1000001000, 32032)], [], ?_⟩)
 clear hj
 try simp only [go_sem]
theorem l_toQueue_ok (a0 : Queue) (r : Queue) (h : l_toQueue a0 = some r) : AC Tryz.prog 16 [.agg (Queue.avs a0)] (.agg (Queue.rv r)) := by
 unfold l_toQueue at h
 refine ac_fn mixed Tryz.func16 rfl rfl rfl (by kernel_rfl) (by kernel_rfl) ?_
 try simp only [go_sem]
 replace h := bindE h
 obtain ⟨v6002, hv6002, h⟩ := h
 refine call_i (l_toJobS_ok _ _ hv6002) ?_
 try simp only [go_sem]
 refine seq_go ?_
 try simp only [go_sem]
 cases h
 simp only [go_sem]
theorem l_eqPort_ok (a0 : Port) (a1 : Port) (r : Bool) (h : l_eqPort a0 a1 = some r) : AC Tryz.prog 222 [.agg (Port.avs a0), .agg (Port.avs a1)] (.bool r) := by
 unfold l_eqPort at h
 refine ac_fn mixed Tryz.func222 rfl rfl rfl (by kernel_rfl) (by kernel_rfl) ?_
 try simp only [go_sem]
 refine cond_i (fun hb1 => ?_) (fun hb1 => ?_)
 ·replace h := ifT (c := (!decide (a0.agent = a1.agent))) hb1 h
  try simp only [go_sem]
  cases h
  simp only [go_sem]
 ·replace h := ifF (c := (!decide (a0.agent = a1.agent))) hb1 h
  try simp only [go_sem]
  refine seq_go ?_
  try simp only [go_sem]
  refine cond_i (fun hb2 => ?_) (fun hb2 => ?_)
  ·replace h := ifT (c := (!decide (a0.slot = a1.slot))) hb2 h
   try simp only [go_sem]
   cases h
   simp only [go_sem]
  ·replace h := ifF (c := (!decide (a0.slot = a1.slot))) hb2 h
   try simp only [go_sem]
   refine seq_go ?_
   try simp only [go_sem]
   cases h
   simp only [go_sem]
theorem l_eqPortS_l1_ok (n : Nat) : (∀ (a0 : List Port) (a1 : List Port) (p0_0 : Int) (r : Bool), l_eqPortS_l1 n a0 a1 p0_0 = some r → posF Tryz.prog Tryz.f187 [1, 1, 0, 1, 0] (.bool r) ⟨[(0, .ro (List.map Port.ds a0)), (1, .ro (List.map Port.ds a1)), (5, .int .i64 p0_0)], [], []⟩) := by
 induction n with
 | zero => exact ((fun _ _ _ _ h => by rw [l_eqPortS_l1] at h; cases h))
 | succ n ih =>
  have ih0 := ih
  ·intro a0 a1 p0_0 r h
   rw [l_eqPortS_l1] at h
   refine posF_of rfl rfl ?_
   try simp only [go_sem]
   refine loop_i ?_
   try simp only [go_sem]
   refine cond_i (fun hb2 => ?_) (fun hb2 => ?_)
   ·replace h := ifT (c := (decide (p0_0 < ((List.length a0 : Nat) : Int)))) hb2 h
    try simp only [go_sem]
    refine seq_go ?_
    try simp only [go_sem]
    refine draw_i [] .fin (by kernel_rfl) ?_
    try simp only [go_sem]
    replace h := bindE h
    obtain ⟨v7002, hv7002, h⟩ := h
    refine idx_m hv7002 (Port.ds_len _) ?_
    try simp only [go_sem]
    replace h := bindE h
    obtain ⟨v7006, hv7006, h⟩ := h
    refine idx_m hv7006 (Port.ds_len _) ?_
    try simp only [go_sem]
    replace h := bindE h
    obtain ⟨v7008, hv7008, h⟩ := h
    refine call_i (l_eqPort_ok _ _ _ hv7008) ?_
    try simp only [go_sem]
    refine seq_go ?_
    try simp only [go_sem]
    refine cond_i (fun hb3 => ?_) (fun hb3 => ?_)
    ·replace h := ifT (c := (!v7008)) hb3 h
     try simp only [go_sem]
     cases h
     simp only [go_sem]
    ·replace h := ifF (c := (!v7008)) hb3 h
     try simp only [go_sem]
     refine seq_go ?_
     try simp only [go_sem]
     have hj := posF_to rfl rfl (ih0 a0 a1 (IntKind.i64.wrap (p0_0 + 1)) _ h)
     refine lp_to hj (.one ⟨_, .done _, [], [], ?_⟩)
     clear hj
     try simp only [go_sem]
   ·replace h := ifF (c := (decide (p0_0 < ((List.length a0 : Nat) : Int)))) hb2 h
    try simp only [go_sem]
    refine seq_go ?_
    try simp only [go_sem]
    cases h
    simp only [go_sem]
theorem l_eqPortS_ok (a0 : List Port) (a1 : List Port) (r : Bool) (h : l_eqPortS a0 a1 = some r) : AC Tryz.prog 187 [.ro (List.map Port.ds a0), .ro (List.map Port.ds a1)] (.bool r) := by
 unfold l_eqPortS at h
 refine ac_fn mixed Tryz.func187 rfl rfl rfl (by kernel_rfl) (by kernel_rfl) ?_
 try simp only [go_sem]
 refine cond_i (fun hb1 => ?_) (fun hb1 => ?_)
 ·replace h := ifT (c := (!decide (((List.length a0 : Nat) : Int) = ((List.length a1 : Nat) : Int)))) hb1 h
  try simp only [go_sem]
  cases h
  simp only [go_sem]
 ·replace h := ifF (c := (!decide (((List.length a0 : Nat) : Int) = ((List.length a1 : Nat) : Int)))) hb1 h
  try simp only [go_sem]
  refine seq_go ?_
  try simp only [go_sem]
  have hj := posF_to rfl rfl (l_eqPortS_l1_ok fuel a0 a1 0 _ h)
  refine loop_to hj (.one ⟨_, .done _, [], [], ?_⟩)
  clear hj
  try simp only [go_sem]
theorem l_eqAgent_ok (a0 : Agent) (a1 : Agent) (r : Bool) (h : l_eqAgent a0 a1 = some r) : AC Tryz.prog 119 [.agg (Agent.avs a0), .agg (Agent.avs a1)] (.bool r) := by
 unfold l_eqAgent at h
 refine ac_fn mixed Tryz.func119 rfl rfl rfl (by kernel_rfl) (by kernel_rfl) ?_
 try simp only [go_sem]
 refine cond_i (fun hb1 => ?_) (fun hb1 => ?_)
 ·replace h := ifT (c := (!decide (a0.kind = a1.kind))) hb1 h
  try simp only [go_sem]
  cases h
  simp only [go_sem]
 ·replace h := ifF (c := (!decide (a0.kind = a1.kind))) hb1 h
  try simp only [go_sem]
  refine seq_go ?_
  try simp only [go_sem]
  refine cond_i (fun hb2 => ?_) (fun hb2 => ?_)
  ·replace h := ifT (c := (!decide (a0.level = a1.level))) hb2 h
   try simp only [go_sem]
   cases h
   simp only [go_sem]
  ·replace h := ifF (c := (!decide (a0.level = a1.level))) hb2 h
   try simp only [go_sem]
   refine seq_go ?_
   try simp only [go_sem]
   refine cond_i (fun hb3 => ?_) (fun hb3 => ?_)
   ·replace h := ifT (c := (!decide (a0.value = a1.value))) hb3 h
    try simp only [go_sem]
    cases h
    simp only [go_sem]
   ·replace h := ifF (c := (!decide (a0.value = a1.value))) hb3 h
    try simp only [go_sem]
    refine seq_go ?_
    try simp only [go_sem]
    replace h := bindE h
    obtain ⟨v8004, hv8004, h⟩ := h
    refine call_i (l_eqInt64S_ok _ _ _ hv8004) ?_
    try simp only [go_sem]
    refine seq_go ?_
    try simp only [go_sem]
    refine cond_i (fun hb4 => ?_) (fun hb4 => ?_)
    ·replace h := ifT (c := (!v8004)) hb4 h
     try simp only [go_sem]
     cases h
     simp only [go_sem]
    ·replace h := ifF (c := (!v8004)) hb4 h
     try simp only [go_sem]
     refine seq_go ?_
     try simp only [go_sem]
     replace h := bindE h
     obtain ⟨v10004, hv10004, h⟩ := h
     refine call_i (l_eqPortS_ok _ _ _ hv10004) ?_
     try simp only [go_sem]
     refine seq_go ?_
     try simp only [go_sem]
     refine cond_i (fun hb5 => ?_) (fun hb5 => ?_)
     ·replace h := ifT (c := (!v10004)) hb5 h
      try simp only [go_sem]
      cases h
      simp only [go_sem]
     ·replace h := ifF (c := (!v10004)) hb5 h
      try simp only [go_sem]
      refine seq_go ?_
      try simp only [go_sem]
      cases h
      simp only [go_sem]
theorem l_eqAgentS_l1_ok (n : Nat) : (∀ (a0 : List Agent) (a1 : List Agent) (p0_0 : Int) (r : Bool), l_eqAgentS_l1 n a0 a1 p0_0 = some r → posF Tryz.prog Tryz.f69 [1, 1, 0, 1, 0] (.bool r) ⟨[(0, .ro (List.map Agent.ds a0)), (1, .ro (List.map Agent.ds a1)), (5, .int .i64 p0_0)], [], []⟩) := by
 induction n with
 | zero => exact ((fun _ _ _ _ h => by rw [l_eqAgentS_l1] at h; cases h))
 | succ n ih =>
  have ih0 := ih
  ·intro a0 a1 p0_0 r h
   rw [l_eqAgentS_l1] at h
   refine posF_of rfl rfl ?_
   try simp only [go_sem]
   refine loop_i ?_
   try simp only [go_sem]
   refine cond_i (fun hb2 => ?_) (fun hb2 => ?_)
   ·replace h := ifT (c := (decide (p0_0 < ((List.length a0 : Nat) : Int)))) hb2 h
    try simp only [go_sem]
    refine seq_go ?_
    try simp only [go_sem]
    refine draw_i [] .fin (by kernel_rfl) ?_
    try simp only [go_sem]
    replace h := bindE h
    obtain ⟨v7002, hv7002, h⟩ := h
    refine idx_m hv7002 (Agent.ds_len _) ?_
    try simp only [go_sem]
    replace h := bindE h
    obtain ⟨v7006, hv7006, h⟩ := h
    refine idx_m hv7006 (Agent.ds_len _) ?_
    try simp only [go_sem]
    replace h := bindE h
    obtain ⟨v7008, hv7008, h⟩ := h
    refine call_i (l_eqAgent_ok _ _ _ hv7008) ?_
    try simp only [go_sem]
    refine seq_go ?_
    try simp only [go_sem]
    refine cond_i (fun hb3 => ?_) (fun hb3 => ?_)
    ·replace h := ifT (c := (!v7008)) hb3 h
     try simp only [go_sem]
     cases h
     simp only [go_sem]
    ·replace h := ifF (c := (!v7008)) hb3 h
     try simp only [go_sem]
     refine seq_go ?_
     try simp only [go_sem]
     have hj := posF_to rfl rfl (ih0 a0 a1 (IntKind.i64.wrap (p0_0 + 1)) _ h)
     refine lp_to hj (.one ⟨_, .done _, [], [], ?_⟩)
     clear hj
     try simp only [go_sem]
   ·replace h := ifF (c := (decide (p0_0 < ((List.length a0 : Nat) : Int)))) hb2 h
    try simp only [go_sem]
    refine seq_go ?_
    try simp only [go_sem]
    cases h
    simp only [go_sem]
theorem l_eqAgentS_ok (a0 : List Agent) (a1 : List Agent) (r : Bool) (h : l_eqAgentS a0 a1 = some r) : AC Tryz.prog 69 [.ro (List.map Agent.ds a0), .ro (List.map Agent.ds a1)] (.bool r) := by
 unfold l_eqAgentS at h
 refine ac_fn mixed Tryz.func69 rfl rfl rfl (by kernel_rfl) (by kernel_rfl) ?_
 try simp only [go_sem]
 refine cond_i (fun hb1 => ?_) (fun hb1 => ?_)
 ·replace h := ifT (c := (!decide (((List.length a0 : Nat) : Int) = ((List.length a1 : Nat) : Int)))) hb1 h
  try simp only [go_sem]
  cases h
  simp only [go_sem]
 ·replace h := ifF (c := (!decide (((List.length a0 : Nat) : Int) = ((List.length a1 : Nat) : Int)))) hb1 h
  try simp only [go_sem]
  refine seq_go ?_
  try simp only [go_sem]
  have hj := posF_to rfl rfl (l_eqAgentS_l1_ok fuel a0 a1 0 _ h)
  refine loop_to hj (.one ⟨_, .done _, [], [], ?_⟩)
  clear hj
  try simp only [go_sem]
theorem l_eqNet_ok (a0 : Net) (a1 : Net) (r : Bool) (h : l_eqNet a0 a1 = some r) : AC Tryz.prog 23 [.agg (Net.avs a0), .agg (Net.avs a1)] (.bool r) := by
 unfold l_eqNet at h
 refine ac_fn mixed Tryz.func23 rfl rfl rfl (by kernel_rfl) (by kernel_rfl) ?_
 try simp only [go_sem]
 replace h := bindE h
 obtain ⟨v2004, hv2004, h⟩ := h
 refine call_i (l_eqAgentS_ok _ _ _ hv2004) ?_
 try simp only [go_sem]
 refine seq_go ?_
 try simp only [go_sem]
 refine cond_i (fun hb1 => ?_) (fun hb1 => ?_)
 ·replace h := ifT (c := (!v2004)) hb1 h
  try simp only [go_sem]
  cases h
  simp only [go_sem]
 ·replace h := ifF (c := (!v2004)) hb1 h
  try simp only [go_sem]
  refine seq_go ?_
  try simp only [go_sem]
  cases h
  simp only [go_sem]
theorem l_eqNetS_l1_ok (n : Nat) : (∀ (a0 : List Net) (a1 : List Net) (p0_0 : Int) (r : Bool), l_eqNetS_l1 n a0 a1 p0_0 = some r → posF Tryz.prog Tryz.f22 [1, 1, 0, 1, 0] (.bool r) ⟨[(0, .ro (List.map Net.ds a0)), (1, .ro (List.map Net.ds a1)), (5, .int .i64 p0_0)], [], []⟩) := by
 induction n with
 | zero => exact ((fun _ _ _ _ h => by rw [l_eqNetS_l1] at h; cases h))
 | succ n ih =>
  have ih0 := ih
  ·intro a0 a1 p0_0 r h
   rw [l_eqNetS_l1] at h
   refine posF_of rfl rfl ?_
   try simp only [go_sem]
   refine loop_i ?_
   try simp only [go_sem]
   refine cond_i (fun hb2 => ?_) (fun hb2 => ?_)
   ·replace h := ifT (c := (decide (p0_0 < ((List.length a0 : Nat) : Int)))) hb2 h
    try simp only [go_sem]
    refine seq_go ?_
    try simp only [go_sem]
    refine draw_i [] .fin (by kernel_rfl) ?_
    try simp only [go_sem]
    replace h := bindE h
    obtain ⟨v7002, hv7002, h⟩ := h
    refine idx_m hv7002 (Net.ds_len _) ?_
    try simp only [go_sem]
    replace h := bindE h
    obtain ⟨v7006, hv7006, h⟩ := h
    refine idx_m hv7006 (Net.ds_len _) ?_
    try simp only [go_sem]
    replace h := bindE h
    obtain ⟨v7008, hv7008, h⟩ := h
    refine call_i (l_eqNet_ok _ _ _ hv7008) ?_
    try simp only [go_sem]
    refine seq_go ?_
    try simp only [go_sem]
    refine cond_i (fun hb3 => ?_) (fun hb3 => ?_)
    ·replace h := ifT (c := (!v7008)) hb3 h
     try simp only [go_sem]
     cases h
     simp only [go_sem]
    ·replace h := ifF (c := (!v7008)) hb3 h
     try simp only [go_sem]
     refine seq_go ?_
     try simp only [go_sem]
     have hj := posF_to rfl rfl (ih0 a0 a1 (IntKind.i64.wrap (p0_0 + 1)) _ h)
     refine lp_to hj (.one ⟨_, .done _, [], [], ?_⟩)
     clear hj
     try simp only [go_sem]
   ·replace h := ifF (c := (decide (p0_0 < ((List.length a0 : Nat) : Int)))) hb2 h
    try simp only [go_sem]
    refine seq_go ?_
    try simp only [go_sem]
    cases h
    simp only [go_sem]
theorem l_eqNetS_ok (a0 : List Net) (a1 : List Net) (r : Bool) (h : l_eqNetS a0 a1 = some r) : AC Tryz.prog 22 [.ro (List.map Net.ds a0), .ro (List.map Net.ds a1)] (.bool r) := by
 unfold l_eqNetS at h
 refine ac_fn mixed Tryz.func22 rfl rfl rfl (by kernel_rfl) (by kernel_rfl) ?_
 try simp only [go_sem]
 refine cond_i (fun hb1 => ?_) (fun hb1 => ?_)
 ·replace h := ifT (c := (!decide (((List.length a0 : Nat) : Int) = ((List.length a1 : Nat) : Int)))) hb1 h
  try simp only [go_sem]
  cases h
  simp only [go_sem]
 ·replace h := ifF (c := (!decide (((List.length a0 : Nat) : Int) = ((List.length a1 : Nat) : Int)))) hb1 h
  try simp only [go_sem]
  refine seq_go ?_
  try simp only [go_sem]
  have hj := posF_to rfl rfl (l_eqNetS_l1_ok fuel a0 a1 0 _ h)
  refine loop_to hj (.one ⟨_, .done _, [], [], ?_⟩)
  clear hj
  try simp only [go_sem]
theorem l_eqJob_ok (a0 : Job) (a1 : Job) (r : Bool) (h : l_eqJob a0 a1 = some r) : AC Tryz.prog 118 [.agg (Job.avs a0), .agg (Job.avs a1)] (.bool r) := by
 unfold l_eqJob at h
 refine ac_fn mixed Tryz.func118 rfl rfl rfl (by kernel_rfl) (by kernel_rfl) ?_
 try simp only [go_sem]
 refine cond_i (fun hb1 => ?_) (fun hb1 => ?_)
 ·replace h := ifT (c := (!decide (a0.id = a1.id))) hb1 h
  try simp only [go_sem]
  cases h
  simp only [go_sem]
 ·replace h := ifF (c := (!decide (a0.id = a1.id))) hb1 h
  try simp only [go_sem]
  refine seq_go ?_
  try simp only [go_sem]
  refine cond_i (fun hb2 => ?_) (fun hb2 => ?_)
  ·replace h := ifT (c := (!decide (a0.weight = a1.weight))) hb2 h
   try simp only [go_sem]
   cases h
   simp only [go_sem]
  ·replace h := ifF (c := (!decide (a0.weight = a1.weight))) hb2 h
   try simp only [go_sem]
   refine seq_go ?_
   try simp only [go_sem]
   refine cond_i (fun hb3 => ?_) (fun hb3 => ?_)
   ·replace h := ifT (c := (!decide (a0.state = a1.state))) hb3 h
    try simp only [go_sem]
    cases h
    simp only [go_sem]
   ·replace h := ifF (c := (!decide (a0.state = a1.state))) hb3 h
    try simp only [go_sem]
    refine seq_go ?_
    try simp only [go_sem]
    refine cond_i (fun hb4 => ?_) (fun hb4 => ?_)
    ·replace h := ifT (c := (!decide (a0.code = a1.code))) hb4 h
     try simp only [go_sem]
     cases h
     simp only [go_sem]
    ·replace h := ifF (c := (!decide (a0.code = a1.code))) hb4 h
     try simp only [go_sem]
     refine seq_go ?_
     try simp only [go_sem]
     refine cond_i (fun hb5 => ?_) (fun hb5 => ?_)
     ·replace h := ifT (c := (!decide (a0.left = a1.left))) hb5 h
      try simp only [go_sem]
      cases h
      simp only [go_sem]
     ·replace h := ifF (c := (!decide (a0.left = a1.left))) hb5 h
      try simp only [go_sem]
      refine seq_go ?_
      try simp only [go_sem]
      refine cond_i (fun hb6 => ?_) (fun hb6 => ?_)
      ·replace h := ifT (c := (!decide (a0.slices = a1.slices))) hb6 h
       try simp only [go_sem]
       cases h
       simp only [go_sem]
      ·replace h := ifF (c := (!decide (a0.slices = a1.slices))) hb6 h
       try simp only [go_sem]
       refine seq_go ?_
       try simp only [go_sem]
       replace h := bindE h
       obtain ⟨v14004, hv14004, h⟩ := h
       refine call_i (l_eqInt64S_ok _ _ _ hv14004) ?_
       try simp only [go_sem]
       refine seq_go ?_
       try simp only [go_sem]
       refine cond_i (fun hb7 => ?_) (fun hb7 => ?_)
       ·replace h := ifT (c := (!v14004)) hb7 h
        try simp only [go_sem]
        cases h
        simp only [go_sem]
       ·replace h := ifF (c := (!v14004)) hb7 h
        try simp only [go_sem]
        refine seq_go ?_
        try simp only [go_sem]
        replace h := bindE h
        obtain ⟨v16004, hv16004, h⟩ := h
        refine call_i (l_eqInt64S_ok _ _ _ hv16004) ?_
        try simp only [go_sem]
        refine seq_go ?_
        try simp only [go_sem]
        refine cond_i (fun hb8 => ?_) (fun hb8 => ?_)
        ·replace h := ifT (c := (!v16004)) hb8 h
         try simp only [go_sem]
         cases h
         simp only [go_sem]
        ·replace h := ifF (c := (!v16004)) hb8 h
         try simp only [go_sem]
         refine seq_go ?_
         try simp only [go_sem]
         replace h := bindE h
         obtain ⟨v18004, hv18004, h⟩ := h
         refine call_i (l_eqNetS_ok _ _ _ hv18004) ?_
         try simp only [go_sem]
         refine seq_go ?_
         try simp only [go_sem]
         refine cond_i (fun hb9 => ?_) (fun hb9 => ?_)
         ·replace h := ifT (c := (!v18004)) hb9 h
          try simp only [go_sem]
          cases h
          simp only [go_sem]
         ·replace h := ifF (c := (!v18004)) hb9 h
          try simp only [go_sem]
          refine seq_go ?_
          try simp only [go_sem]
          replace h := bindE h
          obtain ⟨v20004, hv20004, h⟩ := h
          refine call_i (l_eqNet_ok _ _ _ hv20004) ?_
          try simp only [go_sem]
          refine seq_go ?_
          try simp only [go_sem]
          refine cond_i (fun hb10 => ?_) (fun hb10 => ?_)
          ·replace h := ifT (c := (!v20004)) hb10 h
           try simp only [go_sem]
           cases h
           simp only [go_sem]
          ·replace h := ifF (c := (!v20004)) hb10 h
           try simp only [go_sem]
           refine seq_go ?_
           try simp only [go_sem]
           cases h
           simp only [go_sem]
theorem l_eqJobS_l1_ok (n : Nat) : (∀ (a0 : List Job) (a1 : List Job) (p0_0 : Int) (r : Bool), l_eqJobS_l1 n a0 a1 p0_0 = some r → posF Tryz.prog Tryz.f68 [1, 1, 0, 1, 0] (.bool r) ⟨[(0, .ro (List.map Job.ds a0)), (1, .ro (List.map Job.ds a1)), (5, .int .i64 p0_0)], [], []⟩) := by
 induction n with
 | zero => exact ((fun _ _ _ _ h => by rw [l_eqJobS_l1] at h; cases h))
 | succ n ih =>
  have ih0 := ih
  ·intro a0 a1 p0_0 r h
   rw [l_eqJobS_l1] at h
   refine posF_of rfl rfl ?_
   try simp only [go_sem]
   refine loop_i ?_
   try simp only [go_sem]
   refine cond_i (fun hb2 => ?_) (fun hb2 => ?_)
   ·replace h := ifT (c := (decide (p0_0 < ((List.length a0 : Nat) : Int)))) hb2 h
    try simp only [go_sem]
    refine seq_go ?_
    try simp only [go_sem]
    refine draw_i [] .fin (by kernel_rfl) ?_
    try simp only [go_sem]
    replace h := bindE h
    obtain ⟨v7002, hv7002, h⟩ := h
    refine idx_m hv7002 (Job.ds_len _) ?_
    try simp only [go_sem]
    replace h := bindE h
    obtain ⟨v7006, hv7006, h⟩ := h
    refine idx_m hv7006 (Job.ds_len _) ?_
    try simp only [go_sem]
    replace h := bindE h
    obtain ⟨v7008, hv7008, h⟩ := h
    refine call_i (l_eqJob_ok _ _ _ hv7008) ?_
    try simp only [go_sem]
    refine seq_go ?_
    try simp only [go_sem]
    refine cond_i (fun hb3 => ?_) (fun hb3 => ?_)
    ·replace h := ifT (c := (!v7008)) hb3 h
     try simp only [go_sem]
     cases h
     simp only [go_sem]
    ·replace h := ifF (c := (!v7008)) hb3 h
     try simp only [go_sem]
     refine seq_go ?_
     try simp only [go_sem]
     have hj := posF_to rfl rfl (ih0 a0 a1 (IntKind.i64.wrap (p0_0 + 1)) _ h)
     refine lp_to hj (.one ⟨_, .done _, [], [], ?_⟩)
     clear hj
     try simp only [go_sem]
   ·replace h := ifF (c := (decide (p0_0 < ((List.length a0 : Nat) : Int)))) hb2 h
    try simp only [go_sem]
    refine seq_go ?_
    try simp only [go_sem]
    cases h
    simp only [go_sem]
theorem l_eqJobS_ok (a0 : List Job) (a1 : List Job) (r : Bool) (h : l_eqJobS a0 a1 = some r) : AC Tryz.prog 68 [.ro (List.map Job.ds a0), .ro (List.map Job.ds a1)] (.bool r) := by
 unfold l_eqJobS at h
 refine ac_fn mixed Tryz.func68 rfl rfl rfl (by kernel_rfl) (by kernel_rfl) ?_
 try simp only [go_sem]
 refine cond_i (fun hb1 => ?_) (fun hb1 => ?_)
 ·replace h := ifT (c := (!decide (((List.length a0 : Nat) : Int) = ((List.length a1 : Nat) : Int)))) hb1 h
  try simp only [go_sem]
  cases h
  simp only [go_sem]
 ·replace h := ifF (c := (!decide (((List.length a0 : Nat) : Int) = ((List.length a1 : Nat) : Int)))) hb1 h
  try simp only [go_sem]
  refine seq_go ?_
  try simp only [go_sem]
  have hj := posF_to rfl rfl (l_eqJobS_l1_ok fuel a0 a1 0 _ h)
  refine loop_to hj (.one ⟨_, .done _, [], [], ?_⟩)
  clear hj
  try simp only [go_sem]
theorem l_eqQueue_ok (a0 : Queue) (a1 : Queue) (r : Bool) (h : l_eqQueue a0 a1 = some r) : AC Tryz.prog 21 [.agg (Queue.avs a0), .agg (Queue.avs a1)] (.bool r) := by
 unfold l_eqQueue at h
 refine ac_fn mixed Tryz.func21 rfl rfl rfl (by kernel_rfl) (by kernel_rfl) ?_
 try simp only [go_sem]
 refine cond_i (fun hb1 => ?_) (fun hb1 => ?_)
 ·replace h := ifT (c := (!decide (a0.quantum = a1.quantum))) hb1 h
  try simp only [go_sem]
  cases h
  simp only [go_sem]
 ·replace h := ifF (c := (!decide (a0.quantum = a1.quantum))) hb1 h
  try simp only [go_sem]
  refine seq_go ?_
  try simp only [go_sem]
  refine cond_i (fun hb2 => ?_) (fun hb2 => ?_)
  ·replace h := ifT (c := (!decide (a0.nextId = a1.nextId))) hb2 h
   try simp only [go_sem]
   cases h
   simp only [go_sem]
  ·replace h := ifF (c := (!decide (a0.nextId = a1.nextId))) hb2 h
   try simp only [go_sem]
   refine seq_go ?_
   try simp only [go_sem]
   refine cond_i (fun hb3 => ?_) (fun hb3 => ?_)
   ·replace h := ifT (c := (!decide (a0.turn = a1.turn))) hb3 h
    try simp only [go_sem]
    cases h
    simp only [go_sem]
   ·replace h := ifF (c := (!decide (a0.turn = a1.turn))) hb3 h
    try simp only [go_sem]
    refine seq_go ?_
    try simp only [go_sem]
    replace h := bindE h
    obtain ⟨v8004, hv8004, h⟩ := h
    refine call_i (l_eqJobS_ok _ _ _ hv8004) ?_
    try simp only [go_sem]
    refine seq_go ?_
    try simp only [go_sem]
    refine cond_i (fun hb4 => ?_) (fun hb4 => ?_)
    ·replace h := ifT (c := (!v8004)) hb4 h
     try simp only [go_sem]
     cases h
     simp only [go_sem]
    ·replace h := ifF (c := (!v8004)) hb4 h
     try simp only [go_sem]
     refine seq_go ?_
     try simp only [go_sem]
     cases h
     simp only [go_sem]
theorem l_markJobS_l1_ok (n : Nat) : (∀ (p0_0 : List Job) (p0_1 : Int) (p0_2 : Int) (z1 : Option Nat) (r : Int × (List Job)), l_markJobS_l1 n p0_0 p0_1 p0_2 = some r → posG Tryz.prog Tryz.f70 [1, 0, 1, 0] (.int .i64 r.1) [(1, ⟨List.map Job.ds r.2, z1, 0, false⟩)] [] ⟨[(0, .own 1), (1, .int .i64 p0_1), (5, .int .i64 p0_2)], [(1, some ⟨List.map Job.ds p0_0, z1, 0, false⟩)], []⟩) := by
 induction n with
 | zero => exact ((fun _ _ _ _ _ h => by rw [l_markJobS_l1] at h; cases h))
 | succ n ih =>
  have ih0 := ih
  ·intro p0_0 p0_1 p0_2 z1 r h
   rw [l_markJobS_l1] at h
   refine posG_of rfl rfl ?_
   try simp only [go_sem]
   refine loop_i ?_
   try simp only [go_sem]
   refine cond_i (fun hb1 => ?_) (fun hb1 => ?_)
   ·replace h := ifT (c := (decide (p0_2 < ((List.length p0_0 : Nat) : Int)))) hb1 h
    try simp only [go_sem]
    refine seq_go ?_
    try simp only [go_sem]
    replace h := bindE h
    obtain ⟨v5003, hv5003, h⟩ := h
    refine idx_m hv5003 (Job.ds_len _) ?_
    try simp only [go_sem]
    replace h := bindE h
    obtain ⟨v5005_92, hv5005_92, h⟩ := h
    refine opt_i (row_m hv5003) ?_
    try simp only [go_sem]
    refine row_i (List.map Job.ds v5005_92) (by rw [← set1_some hv5005_92]; simp only [List.map_set, go_sem, Job.ds_eq]) ?_
    try simp only [go_sem]
    replace h := bindE h
    obtain ⟨v7003, hv7003, h⟩ := h
    refine idx_m hv7003 (Job.ds_len _) ?_
    try simp only [go_sem]
    replace h := bindE h
    obtain ⟨v7005_93, hv7005_93, h⟩ := h
    refine opt_i (row_m hv7003) ?_
    try simp only [go_sem]
    refine row_i (List.map Job.ds v7005_93) (by rw [← set1_some hv7005_93]; simp only [List.map_set, go_sem, Job.ds_eq]) ?_
    try simp only [go_sem]
    replace h := bindE h
    obtain ⟨v9003, hv9003, h⟩ := h
    refine idx_m hv9003 (Job.ds_len _) ?_
    try simp only [go_sem]
    replace h := bindE h
    obtain ⟨v9005_94, hv9005_94, h⟩ := h
    refine opt_i (row_m hv9003) ?_
    try simp only [go_sem]
    refine row_i (List.map Job.ds v9005_94) (by rw [← set1_some hv9005_94]; simp only [List.map_set, go_sem, Job.ds_eq]) ?_
    try simp only [go_sem]
    replace h := bindE h
    obtain ⟨v11003, hv11003, h⟩ := h
    refine idx_m hv11003 (Job.ds_len _) ?_
    try simp only [go_sem]
    replace h := bindE h
    obtain ⟨v11005_95, hv11005_95, h⟩ := h
    refine opt_i (row_m hv11003) ?_
    try simp only [go_sem]
    refine row_i (List.map Job.ds v11005_95) (by rw [← set1_some hv11005_95]; simp only [List.map_set, go_sem, Job.ds_eq]) ?_
    try simp only [go_sem]
    replace h := bindE h
    obtain ⟨v13003, hv13003, h⟩ := h
    refine idx_m hv13003 (Job.ds_len _) ?_
    try simp only [go_sem]
    replace h := bindE h
    obtain ⟨v13005_96, hv13005_96, h⟩ := h
    refine opt_i (row_m hv13003) ?_
    try simp only [go_sem]
    refine row_i (List.map Job.ds v13005_96) (by rw [← set1_some hv13005_96]; simp only [List.map_set, go_sem, Job.ds_eq]) ?_
    try simp only [go_sem]
    replace h := bindE h
    obtain ⟨v15003, hv15003, h⟩ := h
    refine idx_m hv15003 (Job.ds_len _) ?_
    try simp only [go_sem]
    replace h := bindE h
    obtain ⟨v15005_97, hv15005_97, h⟩ := h
    refine opt_i (row_m hv15003) ?_
    try simp only [go_sem]
    refine row_i (List.map Job.ds v15005_97) (by rw [← set1_some hv15005_97]; simp only [List.map_set, go_sem, Job.ds_eq]) ?_
    try simp only [go_sem]
    replace h := bindE h
    obtain ⟨v17002, hv17002, h⟩ := h
    refine idx_m hv17002 (Job.ds_len _) ?_
    try simp only [go_sem]
    refine opt_i (row_m hv17002) ?_
    try simp only [go_sem]
    replace h := bindE h
    obtain ⟨v17006, hv17006, h⟩ := h
    replace h := bindE h
    obtain ⟨v17006_99, hv17006_99, h⟩ := h
    refine call_g ⟨[(3000272096, .sub 1 0 [(10, Int.toNat p0_2, 6)], none)], [(1, 3000272096)], [], [], [], true⟩ (by kernel_rfl) (l_markInt64S_ok _ _ none _ hv17006) (by kernel_rfl) ?_
    try simp only [go_sem]
    refine opt_i (getP_1 (r := List.map i64D v17002.counts) (row_m hv17002) (Job.ds_len _) (by simp only [go_sem, Job.ds_eq])) ?_
    try simp only [go_sem]
    refine row_i ((List.map Job.ds v15005_97).set (Int.toNat p0_2) [.int .i64 v17002.id, .int .i64 v17002.weight, .int .i64 v17002.state, .int .i64 v17002.code, .int .i64 v17002.left, .int .i64 v17002.slices, .gone, .sl (List.map i64D v17002.schedule), .sl (List.map Net.ds v17002.book), .sl (List.map Agent.ds v17002.net.agents)]) ((putR_1 (row_m hv17002) (d' := .sl (List.map i64D v17002.counts)) (by simp only [go_sem, Job.ds_eq])).trans (by simp only [go_sem, Job.ds_eq])) ?_
    try simp only [go_sem]
    refine and_i (getC_1 (set_at (row_m hv17002)) rfl rfl) ?_
    try simp only [go_sem]
    refine row_i (List.map Job.ds v17006_99) (((putR_1 (set_at (row_m hv17002)) (d' := .gone) rfl).trans (List.set_set ..)).trans (by rw [← set1_some hv17006_99]; simp only [List.map_set, go_sem, Job.ds_eq])) ?_
    try simp only [go_sem]
    refine seq_go ?_
    try simp only [go_sem]
    replace h := bindE h
    obtain ⟨v18002, hv18002, h⟩ := h
    refine idx_m hv18002 (Job.ds_len _) ?_
    try simp only [go_sem]
    refine opt_i (row_m hv18002) ?_
    try simp only [go_sem]
    replace h := bindE h
    obtain ⟨v18006, hv18006, h⟩ := h
    replace h := bindE h
    obtain ⟨v18006_101, hv18006_101, h⟩ := h
    refine call_g ⟨[(3000288096, .sub 1 0 [(10, Int.toNat p0_2, 7)], none)], [(1, 3000288096)], [], [], [], true⟩ (by kernel_rfl) (l_markInt64S_ok _ _ none _ hv18006) (by kernel_rfl) ?_
    try simp only [go_sem]
    refine opt_i (getP_1 (r := List.map i64D v18002.schedule) (row_m hv18002) (Job.ds_len _) (by simp only [go_sem, Job.ds_eq])) ?_
    try simp only [go_sem]
    refine row_i ((List.map Job.ds v17006_99).set (Int.toNat p0_2) [.int .i64 v18002.id, .int .i64 v18002.weight, .int .i64 v18002.state, .int .i64 v18002.code, .int .i64 v18002.left, .int .i64 v18002.slices, .sl (List.map i64D v18002.counts), .gone, .sl (List.map Net.ds v18002.book), .sl (List.map Agent.ds v18002.net.agents)]) ((putR_1 (row_m hv18002) (d' := .sl (List.map i64D v18002.schedule)) (by simp only [go_sem, Job.ds_eq])).trans (by simp only [go_sem, Job.ds_eq])) ?_
    try simp only [go_sem]
    refine and_i (getC_1 (set_at (row_m hv18002)) rfl rfl) ?_
    try simp only [go_sem]
    refine row_i (List.map Job.ds v18006_101) (((putR_1 (set_at (row_m hv18002)) (d' := .gone) rfl).trans (List.set_set ..)).trans (by rw [← set1_some hv18006_101]; simp only [List.map_set, go_sem, Job.ds_eq])) ?_
    try simp only [go_sem]
    refine seq_go ?_
    try simp only [go_sem]
    replace h := bindE h
    obtain ⟨v19002, hv19002, h⟩ := h
    refine idx_m hv19002 (Job.ds_len _) ?_
    try simp only [go_sem]
    refine opt_i (row_m hv19002) ?_
    try simp only [go_sem]
    replace h := bindE h
    obtain ⟨v19006, hv19006, h⟩ := h
    replace h := bindE h
    obtain ⟨v19006_103, hv19006_103, h⟩ := h
    refine call_g ⟨[(3000304096, .sub 1 0 [(10, Int.toNat p0_2, 8)], none)], [(1, 3000304096)], [], [], [], true⟩ (by kernel_rfl) (l_markNetS_ok _ _ none _ hv19006) (by kernel_rfl) ?_
    try simp only [go_sem]
    refine opt_i (getP_1 (r := List.map Net.ds v19002.book) (row_m hv19002) (Job.ds_len _) (by simp only [go_sem, Job.ds_eq])) ?_
    try simp only [go_sem]
    refine row_i ((List.map Job.ds v18006_101).set (Int.toNat p0_2) [.int .i64 v19002.id, .int .i64 v19002.weight, .int .i64 v19002.state, .int .i64 v19002.code, .int .i64 v19002.left, .int .i64 v19002.slices, .sl (List.map i64D v19002.counts), .sl (List.map i64D v19002.schedule), .gone, .sl (List.map Agent.ds v19002.net.agents)]) ((putR_1 (row_m hv19002) (d' := .sl (List.map Net.ds v19002.book)) (by simp only [go_sem, Job.ds_eq])).trans (by simp only [go_sem, Job.ds_eq])) ?_
    try simp only [go_sem]
    refine and_i (getC_1 (set_at (row_m hv19002)) rfl rfl) ?_
    try simp only [go_sem]
    refine row_i (List.map Job.ds v19006_103) (((putR_1 (set_at (row_m hv19002)) (d' := .gone) rfl).trans (List.set_set ..)).trans (by rw [← set1_some hv19006_103]; simp only [List.map_set, go_sem, Job.ds_eq])) ?_
    try simp only [go_sem]
    refine seq_go ?_
    try simp only [go_sem]
    replace h := bindE h
    obtain ⟨v20002, hv20002, h⟩ := h
    refine idx_m hv20002 (Job.ds_len _) ?_
    try simp only [go_sem]
    refine opt_i (row_m hv20002) ?_
    try simp only [go_sem]
    replace h := bindE h
    obtain ⟨v20007, hv20007, h⟩ := h
    replace h := bindE h
    obtain ⟨v20007_104, hv20007_104, h⟩ := h
    refine call_g ⟨[(3000320112, .sub 1 0 [(10, Int.toNat p0_2, 9)], none)], [(1, 3000320112)], [], [], [], true⟩ (by kernel_rfl) (l_markAgentS_ok _ _ none _ hv20007) (by kernel_rfl) ?_
    try simp only [go_sem]
    refine opt_i (getP_1 (r := List.map Agent.ds v20002.net.agents) (row_m hv20002) (Job.ds_len _) (by simp only [go_sem, Job.ds_eq])) ?_
    try simp only [go_sem]
    refine row_i ((List.map Job.ds v19006_103).set (Int.toNat p0_2) [.int .i64 v20002.id, .int .i64 v20002.weight, .int .i64 v20002.state, .int .i64 v20002.code, .int .i64 v20002.left, .int .i64 v20002.slices, .sl (List.map i64D v20002.counts), .sl (List.map i64D v20002.schedule), .sl (List.map Net.ds v20002.book), .gone]) ((putR_1 (row_m hv20002) (d' := .sl (List.map Agent.ds v20002.net.agents)) (by simp only [go_sem, Job.ds_eq])).trans (by simp only [go_sem, Job.ds_eq])) ?_
    try simp only [go_sem]
    refine and_i (getC_1 (set_at (row_m hv20002)) rfl rfl) ?_
    try simp only [go_sem]
    refine row_i (List.map Job.ds v20007_104) (((putR_1 (set_at (row_m hv20002)) (d' := .gone) rfl).trans (List.set_set ..)).trans (by rw [← set1_some hv20007_104]; simp only [List.map_set, go_sem, Job.ds_eq])) ?_
    try simp only [go_sem]
    refine seq_go ?_
    try simp only [go_sem]
    have hj := posG_to rfl rfl (ih0 v20007_104 v20007.1 (IntKind.i64.wrap (p0_2 + 1)) z1 _ h)
    refine lp_to hj (.one ⟨_, .done _, [(1, 1)], [], ?_⟩)
    clear hj
    try simp only [go_sem]
   ·replace h := ifF (c := (decide (p0_2 < ((List.length p0_0 : Nat) : Int)))) hb1 h
    try simp only [go_sem]
    refine seq_go ?_
    try simp only [go_sem]
    cases h
    refine ret_i (.done _) [(1, 1)] [] ?_
    simp only [go_sem]
theorem l_markJobS_ok (a0 : List Job) (a1 : Int) (z1 : Option Nat) (r : Int × (List Job)) (h : l_markJobS a0 a1 = some r) : AG Tryz.prog 70 [.own 1, .int .i64 a1] [(1, ⟨List.map Job.ds a0, z1, 0, false⟩)] [] (.int .i64 r.1) [(1, ⟨List.map Job.ds r.2, z1, 0, false⟩)] [] := by
 unfold l_markJobS at h
 refine ag_fn mixed Tryz.func70 rfl rfl rfl (by kernel_rfl) (by kernel_rfl) ?_
 try simp only [go_sem]
 have hj := posG_to rfl rfl (l_markJobS_l1_ok fuel a0 a1 0 z1 _ h)
 refine loop_to hj (.one ⟨_, .done _, [(1, 1)], [], ?_⟩)
 clear hj
 try simp only [go_sem]
theorem l_markQueue_ok (a0 : Queue) (a1 : Int) (z1 : Option Nat) (r : Int × (List Job)) (h : l_markQueue a0 a1 = some r) : AG Tryz.prog 25 [.agg [.int .i64 a0.quantum, .int .i64 a0.nextId, .int .i64 a0.turn, .own 1], .int .i64 a1] [(1, ⟨List.map Job.ds a0.jobs, z1, 0, false⟩)] [] (.int .i64 r.1) [(1, ⟨List.map Job.ds r.2, z1, 0, false⟩)] [] := by
 unfold l_markQueue at h
 refine ag_fn mixed Tryz.func25 rfl rfl rfl (by kernel_rfl) (by kernel_rfl) ?_
 try simp only [go_sem]
 replace h := bindE h
 obtain ⟨v2003, hv2003, h⟩ := h
 refine call_g ⟨[], [(1, 1)], [], [], [], true⟩ (by kernel_rfl) (l_markJobS_ok _ _ z1 _ hv2003) (by kernel_rfl) ?_
 try simp only [go_sem]
 refine seq_go ?_
 try simp only [go_sem]
 cases h
 refine ret_i (.done _) [(1, 1)] [] ?_
 simp only [go_sem]
theorem l_heldJobS_l1_ok (n : Nat) : (∀ (a0 : List Job) (p0_0 : Int) (p0_1 : Int) (r : Int), l_heldJobS_l1 n a0 p0_0 p0_1 = some r → posF Tryz.prog Tryz.f72 [1, 0, 1, 0] (.int .i64 r) ⟨[(0, .ro (List.map Job.ds a0)), (1, .int .i64 p0_0), (5, .int .i64 p0_1)], [], []⟩) := by
 induction n with
 | zero => exact ((fun _ _ _ _ h => by rw [l_heldJobS_l1] at h; cases h))
 | succ n ih =>
  have ih0 := ih
  ·intro a0 p0_0 p0_1 r h
   rw [l_heldJobS_l1] at h
   refine posF_of rfl rfl ?_
   try simp only [go_sem]
   refine loop_i ?_
   try simp only [go_sem]
   refine cond_i (fun hb1 => ?_) (fun hb1 => ?_)
   ·replace h := ifT (c := (decide (p0_1 < ((List.length a0 : Nat) : Int)))) hb1 h
    try simp only [go_sem]
    refine seq_go ?_
    try simp only [go_sem]
    replace h := bindE h
    obtain ⟨v5002, hv5002, h⟩ := h
    refine idx_m hv5002 (Job.ds_len _) ?_
    try simp only [go_sem]
    refine cond_i (fun hb2 => ?_) (fun hb2 => ?_)
    ·replace h := ifT (c := (!decide (v5002.id = p0_0))) hb2 h
     try simp only [go_sem]
     cases h
     simp only [go_sem]
    ·replace h := ifF (c := (!decide (v5002.id = p0_0))) hb2 h
     try simp only [go_sem]
     refine seq_go ?_
     try simp only [go_sem]
     replace h := bindE h
     obtain ⟨v8002, hv8002, h⟩ := h
     refine idx_m hv8002 (Job.ds_len _) ?_
     try simp only [go_sem]
     refine cond_i (fun hb3 => ?_) (fun hb3 => ?_)
     ·replace h := ifT (c := (!decide (v8002.weight = (IntKind.i64.wrap (p0_0 + 1))))) hb3 h
      try simp only [go_sem]
      cases h
      simp only [go_sem]
     ·replace h := ifF (c := (!decide (v8002.weight = (IntKind.i64.wrap (p0_0 + 1))))) hb3 h
      try simp only [go_sem]
      refine seq_go ?_
      try simp only [go_sem]
      replace h := bindE h
      obtain ⟨v11002, hv11002, h⟩ := h
      refine idx_m hv11002 (Job.ds_len _) ?_
      try simp only [go_sem]
      refine cond_i (fun hb4 => ?_) (fun hb4 => ?_)
      ·replace h := ifT (c := (!decide (v11002.state = (IntKind.i64.wrap ((IntKind.i64.wrap (p0_0 + 1)) + 1))))) hb4 h
       try simp only [go_sem]
       cases h
       simp only [go_sem]
      ·replace h := ifF (c := (!decide (v11002.state = (IntKind.i64.wrap ((IntKind.i64.wrap (p0_0 + 1)) + 1))))) hb4 h
       try simp only [go_sem]
       refine seq_go ?_
       try simp only [go_sem]
       replace h := bindE h
       obtain ⟨v14002, hv14002, h⟩ := h
       refine idx_m hv14002 (Job.ds_len _) ?_
       try simp only [go_sem]
       refine cond_i (fun hb5 => ?_) (fun hb5 => ?_)
       ·replace h := ifT (c := (!decide (v14002.code = (IntKind.i64.wrap ((IntKind.i64.wrap ((IntKind.i64.wrap (p0_0 + 1)) + 1)) + 1))))) hb5 h
        try simp only [go_sem]
        cases h
        simp only [go_sem]
       ·replace h := ifF (c := (!decide (v14002.code = (IntKind.i64.wrap ((IntKind.i64.wrap ((IntKind.i64.wrap (p0_0 + 1)) + 1)) + 1))))) hb5 h
        try simp only [go_sem]
        refine seq_go ?_
        try simp only [go_sem]
        replace h := bindE h
        obtain ⟨v17002, hv17002, h⟩ := h
        refine idx_m hv17002 (Job.ds_len _) ?_
        try simp only [go_sem]
        refine cond_i (fun hb6 => ?_) (fun hb6 => ?_)
        ·replace h := ifT (c := (!decide (v17002.left = (IntKind.i64.wrap ((IntKind.i64.wrap ((IntKind.i64.wrap ((IntKind.i64.wrap (p0_0 + 1)) + 1)) + 1)) + 1))))) hb6 h
         try simp only [go_sem]
         cases h
         simp only [go_sem]
        ·replace h := ifF (c := (!decide (v17002.left = (IntKind.i64.wrap ((IntKind.i64.wrap ((IntKind.i64.wrap ((IntKind.i64.wrap (p0_0 + 1)) + 1)) + 1)) + 1))))) hb6 h
         try simp only [go_sem]
         refine seq_go ?_
         try simp only [go_sem]
         replace h := bindE h
         obtain ⟨v20002, hv20002, h⟩ := h
         refine idx_m hv20002 (Job.ds_len _) ?_
         try simp only [go_sem]
         refine cond_i (fun hb7 => ?_) (fun hb7 => ?_)
         ·replace h := ifT (c := (!decide (v20002.slices = (IntKind.i64.wrap ((IntKind.i64.wrap ((IntKind.i64.wrap ((IntKind.i64.wrap ((IntKind.i64.wrap (p0_0 + 1)) + 1)) + 1)) + 1)) + 1))))) hb7 h
          try simp only [go_sem]
          cases h
          simp only [go_sem]
         ·replace h := ifF (c := (!decide (v20002.slices = (IntKind.i64.wrap ((IntKind.i64.wrap ((IntKind.i64.wrap ((IntKind.i64.wrap ((IntKind.i64.wrap (p0_0 + 1)) + 1)) + 1)) + 1)) + 1))))) hb7 h
          try simp only [go_sem]
          refine seq_go ?_
          try simp only [go_sem]
          replace h := bindE h
          obtain ⟨v23002, hv23002, h⟩ := h
          refine idx_m hv23002 (Job.ds_len _) ?_
          try simp only [go_sem]
          replace h := bindE h
          obtain ⟨v23006, hv23006, h⟩ := h
          refine call_i (l_heldInt64S_ok _ _ _ hv23006) ?_
          try simp only [go_sem]
          refine seq_go ?_
          try simp only [go_sem]
          refine cond_i (fun hb8 => ?_) (fun hb8 => ?_)
          ·replace h := ifT (c := (decide (v23006 < 0))) hb8 h
           try simp only [go_sem]
           cases h
           simp only [go_sem]
          ·replace h := ifF (c := (decide (v23006 < 0))) hb8 h
           try simp only [go_sem]
           refine seq_go ?_
           try simp only [go_sem]
           replace h := bindE h
           obtain ⟨v26002, hv26002, h⟩ := h
           refine idx_m hv26002 (Job.ds_len _) ?_
           try simp only [go_sem]
           replace h := bindE h
           obtain ⟨v26006, hv26006, h⟩ := h
           refine call_i (l_heldInt64S_ok _ _ _ hv26006) ?_
           try simp only [go_sem]
           refine seq_go ?_
           try simp only [go_sem]
           refine cond_i (fun hb9 => ?_) (fun hb9 => ?_)
           ·replace h := ifT (c := (decide (v26006 < 0))) hb9 h
            try simp only [go_sem]
            cases h
            simp only [go_sem]
           ·replace h := ifF (c := (decide (v26006 < 0))) hb9 h
            try simp only [go_sem]
            refine seq_go ?_
            try simp only [go_sem]
            replace h := bindE h
            obtain ⟨v29002, hv29002, h⟩ := h
            refine idx_m hv29002 (Job.ds_len _) ?_
            try simp only [go_sem]
            replace h := bindE h
            obtain ⟨v29006, hv29006, h⟩ := h
            refine call_i (l_heldNetS_ok _ _ _ hv29006) ?_
            try simp only [go_sem]
            refine seq_go ?_
            try simp only [go_sem]
            refine cond_i (fun hb10 => ?_) (fun hb10 => ?_)
            ·replace h := ifT (c := (decide (v29006 < 0))) hb10 h
             try simp only [go_sem]
             cases h
             simp only [go_sem]
            ·replace h := ifF (c := (decide (v29006 < 0))) hb10 h
             try simp only [go_sem]
             refine seq_go ?_
             try simp only [go_sem]
             replace h := bindE h
             obtain ⟨v32002, hv32002, h⟩ := h
             refine idx_m hv32002 (Job.ds_len _) ?_
             try simp only [go_sem]
             replace h := bindE h
             obtain ⟨v32007, hv32007, h⟩ := h
             refine call_i (l_heldAgentS_ok _ _ _ hv32007) ?_
             try simp only [go_sem]
             refine seq_go ?_
             try simp only [go_sem]
             refine cond_i (fun hb11 => ?_) (fun hb11 => ?_)
             ·replace h := ifT (c := (decide (v32007 < 0))) hb11 h
              try simp only [go_sem]
              cases h
              simp only [go_sem]
             ·replace h := ifF (c := (decide (v32007 < 0))) hb11 h
              try simp only [go_sem]
              refine seq_go ?_
              try simp only [go_sem]
              have hj := posF_to rfl rfl (ih0 a0 v32007 (IntKind.i64.wrap (p0_1 + 1)) _ h)
              refine lp_to hj (.one ⟨_, .done _, [], [], ?_⟩)
              clear hj
              try simp only [go_sem]
   ·replace h := ifF (c := (decide (p0_1 < ((List.length a0 : Nat) : Int)))) hb1 h
    try simp only [go_sem]
    refine seq_go ?_
    try simp only [go_sem]
    cases h
    simp only [go_sem]
theorem l_heldJobS_ok (a0 : List Job) (a1 : Int) (r : Int) (h : l_heldJobS a0 a1 = some r) : AC Tryz.prog 72 [.ro (List.map Job.ds a0), .int .i64 a1] (.int .i64 r) := by
 unfold l_heldJobS at h
 refine ac_fn mixed Tryz.func72 rfl rfl rfl (by kernel_rfl) (by kernel_rfl) ?_
 try simp only [go_sem]
 have hj := posF_to rfl rfl (l_heldJobS_l1_ok fuel a0 a1 0 _ h)
 refine loop_to hj (.one ⟨_, .done _, [], [], ?_⟩)
 clear hj
 try simp only [go_sem]
theorem l_heldQueue_ok (a0 : Queue) (a1 : Int) (r : Int) (h : l_heldQueue a0 a1 = some r) : AC Tryz.prog 29 [.agg (Queue.avs a0), .int .i64 a1] (.int .i64 r) := by
 unfold l_heldQueue at h
 refine ac_fn mixed Tryz.func29 rfl rfl rfl (by kernel_rfl) (by kernel_rfl) ?_
 try simp only [go_sem]
 replace h := bindE h
 obtain ⟨v2003, hv2003, h⟩ := h
 refine call_i (l_heldJobS_ok _ _ _ hv2003) ?_
 try simp only [go_sem]
 refine seq_go ?_
 try simp only [go_sem]
 refine cond_i (fun hb1 => ?_) (fun hb1 => ?_)
 ·replace h := ifT (c := (decide (v2003 < 0))) hb1 h
  try simp only [go_sem]
  cases h
  simp only [go_sem]
 ·replace h := ifF (c := (decide (v2003 < 0))) hb1 h
  try simp only [go_sem]
  refine seq_go ?_
  try simp only [go_sem]
  cases h
  simp only [go_sem]
end Go.Proofs.YtckcfdggbbabfaaGreat.Ab
