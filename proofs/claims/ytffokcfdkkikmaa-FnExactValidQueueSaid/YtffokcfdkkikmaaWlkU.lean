/-
  The functions do what their models say. Printed by wip/ab/gen.py.
-/
import Derived.Test.YtffokcfdkkikmaaWlkUA
namespace Go.Proofs.Ytffokcfdkkikmaa.Ab
set_option linter.unusedVariables false
set_option linter.unusedSimpArgs false
set_option maxRecDepth 20000
set_option maxHeartbeats 4000000
open Go.RowKit
theorem i_validJob_j1_ok (a0 : Job) (p0_0 : Bool) (r : Bool) (h : i_validJob_j1 a0 p0_0 = some r) : posF Try.prog Try.f109 [1, 0, 1] (.bool r) ⟨[(1, .box 1000000500 0), (35, .bool p0_0)], [], [(1000000500, some [.int .i64 a0.id, .int .i64 a0.weight, .int .i64 a0.state, .int .i64 a0.code, .int .i64 a0.left, .int .i64 a0.slices, .ro (List.map i64D a0.counts), .ro (List.map i64D a0.schedule), .ro (List.map Net.ds a0.book), .ro (List.map Agent.ds a0.net.agents)])]⟩ := by
  unfold i_validJob_j1 at h
  refine posF_of rfl rfl ?_
  try simp only [go_sem]
  refine cond_i (fun hb6 => ?_) (fun hb6 => ?_)
  · replace h := ifT (c := p0_0) hb6 h
    try simp only [go_sem]
    replace h := Option.some.inj h
    obtain rfl := h
    simp only [go_sem]
  · replace h := ifF (c := p0_0) hb6 h
    try simp only [go_sem]
    refine seq_go ?_
    try simp only [go_sem]
    replace h := bindE h
    obtain ⟨v4002, hv4002, h⟩ := h
    refine call_i (i_TotalCounts_ok _ _ hv4002) ?_
    try simp only [go_sem]
    replace h := bindE h
    obtain ⟨v5004, hv5004, h⟩ := h
    refine call_i (i_truth_ok _ _ hv5004) ?_
    try simp only [go_sem]
    refine cond_i (fun hb7 => ?_) (fun hb7 => ?_)
    · replace h := ifT (c := (decide (4000 < (IntKind.i64.wrap (v4002 + a0.left))))) hb7 h
      try simp only [go_sem]
      have hj := posF_to rfl rfl (i_validJob_j2_ok a0 true _ h)
      refine seq_to hj (.one ⟨_, .done _, [], [(1000001500, 1000000500)], ?_⟩)
      clear hj
      try simp only [go_sem]
    · replace h := ifF (c := (decide (4000 < (IntKind.i64.wrap (v4002 + a0.left))))) hb7 h
      try simp only [go_sem]
      replace h := bindE h
      obtain ⟨v6010, hv6010, h⟩ := h
      refine call_i (i_atMost_ok _ _ _ hv6010) ?_
      try simp only [go_sem]
      refine cond_i (fun hb8 => ?_) (fun hb8 => ?_)
      · replace h := ifT (c := (!v6010)) hb8 h
        try simp only [go_sem]
        have hj := posF_to rfl rfl (i_validJob_j2_ok a0 true _ h)
        refine seq_to hj (.one ⟨_, .done _, [], [(1000001500, 1000000500)], ?_⟩)
        clear hj
        try simp only [go_sem]
      · replace h := ifF (c := (!v6010)) hb8 h
        try simp only [go_sem]
        replace h := bindE h
        obtain ⟨v6017, hv6017, h⟩ := h
        refine call_i (i_atMost_ok _ _ _ hv6017) ?_
        try simp only [go_sem]
        refine cond_i (fun hb9 => ?_) (fun hb9 => ?_)
        · replace h := ifT (c := (!v6017)) hb9 h
          try simp only [go_sem]
          have hj := posF_to rfl rfl (i_validJob_j2_ok a0 true _ h)
          refine seq_to hj (.one ⟨_, .done _, [], [(1000001500, 1000000500)], ?_⟩)
          clear hj
          try simp only [go_sem]
        · replace h := ifF (c := (!v6017)) hb9 h
          try simp only [go_sem]
          have hj := posF_to rfl rfl (i_validJob_j2_ok a0 (!((decide (a0.code = 0)) == (!decide (a0.state = 3)))) _ h)
          refine seq_to hj (.one ⟨_, .done _, [], [(1000001500, 1000000500)], ?_⟩)
          clear hj
          try simp only [go_sem]
theorem i_validJob_ok (a0 : Job) (r : Bool) (h : i_validJob a0 = some r) : AC Try.prog 109 [.agg (Job.avs a0)] (.bool r) := by
  unfold i_validJob at h
  refine ac_fn mixed Try.func109 rfl rfl rfl (by kernel_rfl) (by kernel_rfl) ?_
  try simp only [go_sem]
  refine cond_i (fun hb1 => ?_) (fun hb1 => ?_)
  · replace h := ifT (c := (decide (a0.weight < 1))) hb1 h
    try simp only [go_sem]
    have hj := posF_to rfl rfl (i_validJob_j1_ok a0 true _ h)
    refine seq_to hj (.one ⟨_, .done _, [], [(1000000500, 1000)], ?_⟩)
    clear hj
    try simp only [go_sem]
  · replace h := ifF (c := (decide (a0.weight < 1))) hb1 h
    try simp only [go_sem]
    refine cond_i (fun hb2 => ?_) (fun hb2 => ?_)
    · replace h := ifT (c := (decide (4 < a0.weight))) hb2 h
      try simp only [go_sem]
      have hj := posF_to rfl rfl (i_validJob_j1_ok a0 true _ h)
      refine seq_to hj (.one ⟨_, .done _, [], [(1000000500, 1000)], ?_⟩)
      clear hj
      try simp only [go_sem]
    · replace h := ifF (c := (decide (4 < a0.weight))) hb2 h
      try simp only [go_sem]
      refine cond_i (fun hb3 => ?_) (fun hb3 => ?_)
      · replace h := ifT (c := (decide (a0.state < 1))) hb3 h
        try simp only [go_sem]
        have hj := posF_to rfl rfl (i_validJob_j1_ok a0 true _ h)
        refine seq_to hj (.one ⟨_, .done _, [], [(1000000500, 1000)], ?_⟩)
        clear hj
        try simp only [go_sem]
      · replace h := ifF (c := (decide (a0.state < 1))) hb3 h
        try simp only [go_sem]
        refine cond_i (fun hb4 => ?_) (fun hb4 => ?_)
        · replace h := ifT (c := (decide (4 < a0.state))) hb4 h
          try simp only [go_sem]
          have hj := posF_to rfl rfl (i_validJob_j1_ok a0 true _ h)
          refine seq_to hj (.one ⟨_, .done _, [], [(1000000500, 1000)], ?_⟩)
          clear hj
          try simp only [go_sem]
        · replace h := ifF (c := (decide (4 < a0.state))) hb4 h
          try simp only [go_sem]
          replace h := bindE h
          obtain ⟨v2022, hv2022, h⟩ := h
          refine call_i (i_atMost_ok _ _ _ hv2022) ?_
          try simp only [go_sem]
          refine cond_i (fun hb5 => ?_) (fun hb5 => ?_)
          · replace h := ifT (c := (!v2022)) hb5 h
            try simp only [go_sem]
            have hj := posF_to rfl rfl (i_validJob_j1_ok a0 true _ h)
            refine seq_to hj (.one ⟨_, .done _, [], [(1000000500, 1000)], ?_⟩)
            clear hj
            try simp only [go_sem]
          · replace h := ifF (c := (!v2022)) hb5 h
            try simp only [go_sem]
            replace h := bindE h
            obtain ⟨v2028, hv2028, h⟩ := h
            refine call_i (i_ValidCounts_ok _ _ hv2028) ?_
            try simp only [go_sem]
            have hj := posF_to rfl rfl (i_validJob_j1_ok a0 (!v2028) _ h)
            refine seq_to hj (.one ⟨_, .done _, [], [(1000000500, 1000)], ?_⟩)
            clear hj
            try simp only [go_sem]
theorem i_ValidQueue_l8_all (n : Nat) : (∀ (a0 : Queue) (p3_0 : Int) (r : Bool), i_ValidQueue_l8 n a0 p3_0 = some r → posF Try.prog Try.f44 [1, 1, 1, 0, 1, 0] (.bool r) ⟨[(1, .box 1000003500 0), (40, .ro (List.map Job.ds a0.jobs)), (41, .int .i64 ((List.length a0.jobs : Nat) : Int)), (42, .int .i64 p3_0)], [], [(1000003500, some [.int .i64 a0.quantum, .int .i64 a0.nextId, .int .i64 a0.turn, .ro (List.map Job.ds a0.jobs)])]⟩) ∧
    (∀ (a0 : Queue) (p3_0 : Int) (p4_0 : Bool) (r : Bool), i_ValidQueue_j9 n a0 p3_0 p4_0 = some r → posF Try.prog Try.f44 [1, 1, 1, 0, 1, 0, 0, 1, 1, 0, 0, 1, 1] (.bool r) ⟨[(1, .box 1000004500 0), (40, .ro (List.map Job.ds a0.jobs)), (41, .int .i64 ((List.length a0.jobs : Nat) : Int)), (42, .int .i64 p3_0), (77, .bool p4_0)], [], [(1000004500, some [.int .i64 a0.quantum, .int .i64 a0.nextId, .int .i64 a0.turn, .ro (List.map Job.ds a0.jobs)])]⟩) := by
  induction n with
  | zero => exact ⟨(fun _ _ _ h => by rw [i_ValidQueue_l8] at h; cases h), (fun _ _ _ _ h => by rw [i_ValidQueue_j9] at h; cases h)⟩
  | succ n ih =>
    obtain ⟨ih0, ih1⟩ := ih
    refine ⟨?_, ?_⟩
    · intro a0 p3_0 r h
      rw [i_ValidQueue_l8] at h
      refine posF_of rfl rfl ?_
      try simp only [go_sem]
      refine loop_i ?_
      try simp only [go_sem]
      refine cond_i (fun hb7 => ?_) (fun hb7 => ?_)
      · replace h := ifT (c := (decide (p3_0 < ((List.length a0.jobs : Nat) : Int)))) hb7 h
        try simp only [go_sem]
        refine seq_go ?_
        try simp only [go_sem]
        replace h := bindE h
        obtain ⟨v8001, hv8001, h⟩ := h
        refine idx_m hv8001 (Job.ds_len _) ?_
        try simp only [go_sem]
        refine draw_i [] .fin (by kernel_rfl) ?_
        try simp only [go_sem]
        refine cond_i (fun hb8 => ?_) (fun hb8 => ?_)
        · replace h := ifT (c := (decide (v8001.id < 1))) hb8 h
          try simp only [go_sem]
          have hj := posF_to rfl rfl (ih1 a0 p3_0 true _ h)
          refine seq_to hj (.one ⟨_, .done _, [], [(1000004500, 1000003500)], ?_⟩)
          clear hj
          try simp only [go_sem]
        · replace h := ifF (c := (decide (v8001.id < 1))) hb8 h
          try simp only [go_sem]
          refine cond_i (fun hb9 => ?_) (fun hb9 => ?_)
          · replace h := ifT (c := (decide (a0.nextId ≤ v8001.id))) hb9 h
            try simp only [go_sem]
            have hj := posF_to rfl rfl (ih1 a0 p3_0 true _ h)
            refine seq_to hj (.one ⟨_, .done _, [], [(1000004500, 1000003500)], ?_⟩)
            clear hj
            try simp only [go_sem]
          · replace h := ifF (c := (decide (a0.nextId ≤ v8001.id))) hb9 h
            try simp only [go_sem]
            refine cond_i (fun hb10 => ?_) (fun hb10 => ?_)
            · replace h := ifT (c := (decide (0 < p3_0))) hb10 h
              try simp only [go_sem]
              replace h := bindE h
              obtain ⟨v9018, hv9018, h⟩ := h
              refine idx_m hv9018 (Job.ds_len _) ?_
              try simp only [go_sem]
              refine cond_i (fun hb11 => ?_) (fun hb11 => ?_)
              · replace h := ifT (c := (decide (v8001.id ≤ v9018.id))) hb11 h
                try simp only [go_sem]
                have hj := posF_to rfl rfl (ih1 a0 p3_0 true _ h)
                refine seq_to hj (.one ⟨_, .done _, [], [(1000004500, 1000003500)], ?_⟩)
                clear hj
                try simp only [go_sem]
              · replace h := ifF (c := (decide (v8001.id ≤ v9018.id))) hb11 h
                try simp only [go_sem]
                replace h := bindE h
                obtain ⟨v9028, hv9028, h⟩ := h
                refine call_i (i_validJob_ok _ _ hv9028) ?_
                try simp only [go_sem]
                have hj := posF_to rfl rfl (ih1 a0 p3_0 (!v9028) _ h)
                refine seq_to hj (.one ⟨_, .done _, [], [(1000004500, 1000003500)], ?_⟩)
                clear hj
                try simp only [go_sem]
            · replace h := ifF (c := (decide (0 < p3_0))) hb10 h
              try simp only [go_sem]
              replace h := bindE h
              obtain ⟨v9028, hv9028, h⟩ := h
              refine call_i (i_validJob_ok _ _ hv9028) ?_
              try simp only [go_sem]
              have hj := posF_to rfl rfl (ih1 a0 p3_0 (!v9028) _ h)
              refine seq_to hj (.one ⟨_, .done _, [], [(1000004500, 1000003500)], ?_⟩)
              clear hj
              try simp only [go_sem]
      · replace h := ifF (c := (decide (p3_0 < ((List.length a0.jobs : Nat) : Int)))) hb7 h
        try simp only [go_sem]
        refine seq_go ?_
        try simp only [go_sem]
        replace h := Option.some.inj h
        obtain rfl := h
        simp only [go_sem]
    · intro a0 p3_0 p4_0 r h
      rw [i_ValidQueue_j9] at h
      refine posF_of rfl rfl ?_
      try simp only [go_sem]
      refine cond_i (fun hb12 => ?_) (fun hb12 => ?_)
      · replace h := ifT (c := p4_0) hb12 h
        try simp only [go_sem]
        replace h := Option.some.inj h
        obtain rfl := h
        simp only [go_sem]
      · replace h := ifF (c := p4_0) hb12 h
        try simp only [go_sem]
        refine seq_go ?_
        try simp only [go_sem]
        have hj := posF_to rfl rfl (ih0 a0 (IntKind.i64.wrap (p3_0 + 1)) _ h)
        refine lp_to hj (.one ⟨_, .done _, [], [(1000003500, 1000004500)], ?_⟩)
        clear hj
        try simp only [go_sem]
theorem i_ValidQueue_l8_ok (n : Nat) : (∀ (a0 : Queue) (p3_0 : Int) (r : Bool), i_ValidQueue_l8 n a0 p3_0 = some r → posF Try.prog Try.f44 [1, 1, 1, 0, 1, 0] (.bool r) ⟨[(1, .box 1000003500 0), (40, .ro (List.map Job.ds a0.jobs)), (41, .int .i64 ((List.length a0.jobs : Nat) : Int)), (42, .int .i64 p3_0)], [], [(1000003500, some [.int .i64 a0.quantum, .int .i64 a0.nextId, .int .i64 a0.turn, .ro (List.map Job.ds a0.jobs)])]⟩) := (i_ValidQueue_l8_all n).1
theorem i_ValidQueue_j9_ok (n : Nat) : (∀ (a0 : Queue) (p3_0 : Int) (p4_0 : Bool) (r : Bool), i_ValidQueue_j9 n a0 p3_0 p4_0 = some r → posF Try.prog Try.f44 [1, 1, 1, 0, 1, 0, 0, 1, 1, 0, 0, 1, 1] (.bool r) ⟨[(1, .box 1000004500 0), (40, .ro (List.map Job.ds a0.jobs)), (41, .int .i64 ((List.length a0.jobs : Nat) : Int)), (42, .int .i64 p3_0), (77, .bool p4_0)], [], [(1000004500, some [.int .i64 a0.quantum, .int .i64 a0.nextId, .int .i64 a0.turn, .ro (List.map Job.ds a0.jobs)])]⟩) := (i_ValidQueue_l8_all n).2

theorem i_ValidQueue_j1_ok (a0 : Queue) (p0_0 : Bool) (r : Bool) (h : i_ValidQueue_j1 a0 p0_0 = some r) : posF Try.prog Try.f44 [1, 0, 1] (.bool r) ⟨[(1, .box 1000000500 0), (28, .bool p0_0)], [], [(1000000500, some [.int .i64 a0.quantum, .int .i64 a0.nextId, .int .i64 a0.turn, .ro (List.map Job.ds a0.jobs)])]⟩ := by
  unfold i_ValidQueue_j1 at h
  refine posF_of rfl rfl ?_
  try simp only [go_sem]
  refine cond_i (fun hb5 => ?_) (fun hb5 => ?_)
  · replace h := ifT (c := p0_0) hb5 h
    try simp only [go_sem]
    replace h := Option.some.inj h
    obtain rfl := h
    simp only [go_sem]
  · replace h := ifF (c := p0_0) hb5 h
    try simp only [go_sem]
    refine seq_go ?_
    try simp only [go_sem]
    replace h := bindE h
    obtain ⟨v4008, hv4008, h⟩ := h
    refine call_i (i_atMost_ok _ _ _ hv4008) ?_
    try simp only [go_sem]
    refine cond_i (fun hb6 => ?_) (fun hb6 => ?_)
    · replace h := ifT (c := (!v4008)) hb6 h
      try simp only [go_sem]
      replace h := Option.some.inj h
      obtain rfl := h
      simp only [go_sem]
    · replace h := ifF (c := (!v4008)) hb6 h
      try simp only [go_sem]
      refine seq_go ?_
      try simp only [go_sem]
      have hj := posF_to rfl rfl (i_ValidQueue_l8_ok fuel a0 0 _ h)
      refine loop_to hj (.one ⟨_, .done _, [], [(1000003500, 1000000500)], ?_⟩)
      clear hj
      try simp only [go_sem]
theorem i_ValidQueue_ok (a0 : Queue) (r : Bool) (h : i_ValidQueue a0 = some r) : AC Try.prog 44 [.agg (Queue.avs a0)] (.bool r) := by
  unfold i_ValidQueue at h
  refine ac_fn mixed Try.func44 rfl rfl rfl (by kernel_rfl) (by kernel_rfl) ?_
  try simp only [go_sem]
  refine cond_i (fun hb1 => ?_) (fun hb1 => ?_)
  · replace h := ifT (c := (decide (a0.quantum < 1))) hb1 h
    try simp only [go_sem]
    have hj := posF_to rfl rfl (i_ValidQueue_j1_ok a0 true _ h)
    refine seq_to hj (.one ⟨_, .done _, [], [(1000000500, 1000)], ?_⟩)
    clear hj
    try simp only [go_sem]
  · replace h := ifF (c := (decide (a0.quantum < 1))) hb1 h
    try simp only [go_sem]
    refine cond_i (fun hb2 => ?_) (fun hb2 => ?_)
    · replace h := ifT (c := (decide (50 < a0.quantum))) hb2 h
      try simp only [go_sem]
      have hj := posF_to rfl rfl (i_ValidQueue_j1_ok a0 true _ h)
      refine seq_to hj (.one ⟨_, .done _, [], [(1000000500, 1000)], ?_⟩)
      clear hj
      try simp only [go_sem]
    · replace h := ifF (c := (decide (50 < a0.quantum))) hb2 h
      try simp only [go_sem]
      refine cond_i (fun hb3 => ?_) (fun hb3 => ?_)
      · replace h := ifT (c := (decide (a0.nextId < 1))) hb3 h
        try simp only [go_sem]
        have hj := posF_to rfl rfl (i_ValidQueue_j1_ok a0 true _ h)
        refine seq_to hj (.one ⟨_, .done _, [], [(1000000500, 1000)], ?_⟩)
        clear hj
        try simp only [go_sem]
      · replace h := ifF (c := (decide (a0.nextId < 1))) hb3 h
        try simp only [go_sem]
        refine cond_i (fun hb4 => ?_) (fun hb4 => ?_)
        · replace h := ifT (c := (decide (1000000000 < a0.nextId))) hb4 h
          try simp only [go_sem]
          have hj := posF_to rfl rfl (i_ValidQueue_j1_ok a0 true _ h)
          refine seq_to hj (.one ⟨_, .done _, [], [(1000000500, 1000)], ?_⟩)
          clear hj
          try simp only [go_sem]
        · replace h := ifF (c := (decide (1000000000 < a0.nextId))) hb4 h
          try simp only [go_sem]
          have hj := posF_to rfl rfl (i_ValidQueue_j1_ok a0 (decide (6 < ((List.length a0.jobs : Nat) : Int))) _ h)
          refine seq_to hj (.one ⟨_, .done _, [], [(1000000500, 1000)], ?_⟩)
          clear hj
          try simp only [go_sem]
theorem l_eqPort_ok (a0 : Port) (a1 : Port) (r : Bool) (h : l_eqPort a0 a1 = some r) : AC Try.prog 401 [.agg (Port.avs a0), .agg (Port.avs a1)] (.bool r) := by
  unfold l_eqPort at h
  refine ac_fn mixed Try.func401 rfl rfl rfl (by kernel_rfl) (by kernel_rfl) ?_
  try simp only [go_sem]
  refine cond_i (fun hb1 => ?_) (fun hb1 => ?_)
  · replace h := ifT (c := (!decide (a0.agent = a1.agent))) hb1 h
    try simp only [go_sem]
    replace h := Option.some.inj h
    obtain rfl := h
    simp only [go_sem]
  · replace h := ifF (c := (!decide (a0.agent = a1.agent))) hb1 h
    try simp only [go_sem]
    refine seq_go ?_
    try simp only [go_sem]
    refine cond_i (fun hb2 => ?_) (fun hb2 => ?_)
    · replace h := ifT (c := (!decide (a0.slot = a1.slot))) hb2 h
      try simp only [go_sem]
      replace h := Option.some.inj h
      obtain rfl := h
      simp only [go_sem]
    · replace h := ifF (c := (!decide (a0.slot = a1.slot))) hb2 h
      try simp only [go_sem]
      refine seq_go ?_
      try simp only [go_sem]
      replace h := Option.some.inj h
      obtain rfl := h
      simp only [go_sem]
theorem l_eqPortS_l1_all (n : Nat) : (∀ (a0 : List Port) (a1 : List Port) (p0_0 : Int) (r : Bool), l_eqPortS_l1 n a0 a1 p0_0 = some r → posF Try.prog Try.f392 [1, 1, 0, 1, 0] (.bool r) ⟨[(0, .ro (List.map Port.ds a0)), (1, .ro (List.map Port.ds a1)), (5, .int .i64 p0_0)], [], []⟩) := by
  induction n with
  | zero => exact ((fun _ _ _ _ h => by rw [l_eqPortS_l1] at h; cases h))
  | succ n ih =>
    have ih0 := ih
    · intro a0 a1 p0_0 r h
      rw [l_eqPortS_l1] at h
      refine posF_of rfl rfl ?_
      try simp only [go_sem]
      refine loop_i ?_
      try simp only [go_sem]
      refine cond_i (fun hb2 => ?_) (fun hb2 => ?_)
      · replace h := ifT (c := (decide (p0_0 < ((List.length a0 : Nat) : Int)))) hb2 h
        try simp only [go_sem]
        refine seq_go ?_
        try simp only [go_sem]
        refine draw_i [] .fin (by kernel_rfl) ?_
        try simp only [go_sem]
        replace h := bindE h
        obtain ⟨v7002, hv7002, h⟩ := h
        refine idx_m hv7002 (Port.ds_len _) ?_
        try simp only [go_sem]
        replace h := bindE h
        obtain ⟨v7006, hv7006, h⟩ := h
        refine idx_m hv7006 (Port.ds_len _) ?_
        try simp only [go_sem]
        replace h := bindE h
        obtain ⟨v7008, hv7008, h⟩ := h
        refine call_i (l_eqPort_ok _ _ _ hv7008) ?_
        try simp only [go_sem]
        refine seq_go ?_
        try simp only [go_sem]
        refine cond_i (fun hb3 => ?_) (fun hb3 => ?_)
        · replace h := ifT (c := (!v7008)) hb3 h
          try simp only [go_sem]
          replace h := Option.some.inj h
          obtain rfl := h
          simp only [go_sem]
        · replace h := ifF (c := (!v7008)) hb3 h
          try simp only [go_sem]
          refine seq_go ?_
          try simp only [go_sem]
          have hj := posF_to rfl rfl (ih0 a0 a1 (IntKind.i64.wrap (p0_0 + 1)) _ h)
          refine lp_to hj (.one ⟨_, .done _, [], [], ?_⟩)
          clear hj
          try simp only [go_sem]
      · replace h := ifF (c := (decide (p0_0 < ((List.length a0 : Nat) : Int)))) hb2 h
        try simp only [go_sem]
        refine seq_go ?_
        try simp only [go_sem]
        replace h := Option.some.inj h
        obtain rfl := h
        simp only [go_sem]
theorem l_eqPortS_l1_ok (n : Nat) : (∀ (a0 : List Port) (a1 : List Port) (p0_0 : Int) (r : Bool), l_eqPortS_l1 n a0 a1 p0_0 = some r → posF Try.prog Try.f392 [1, 1, 0, 1, 0] (.bool r) ⟨[(0, .ro (List.map Port.ds a0)), (1, .ro (List.map Port.ds a1)), (5, .int .i64 p0_0)], [], []⟩) := (l_eqPortS_l1_all n)

theorem l_eqPortS_ok (a0 : List Port) (a1 : List Port) (r : Bool) (h : l_eqPortS a0 a1 = some r) : AC Try.prog 392 [.ro (List.map Port.ds a0), .ro (List.map Port.ds a1)] (.bool r) := by
  unfold l_eqPortS at h
  refine ac_fn mixed Try.func392 rfl rfl rfl (by kernel_rfl) (by kernel_rfl) ?_
  try simp only [go_sem]
  refine cond_i (fun hb1 => ?_) (fun hb1 => ?_)
  · replace h := ifT (c := (!decide (((List.length a0 : Nat) : Int) = ((List.length a1 : Nat) : Int)))) hb1 h
    try simp only [go_sem]
    replace h := Option.some.inj h
    obtain rfl := h
    simp only [go_sem]
  · replace h := ifF (c := (!decide (((List.length a0 : Nat) : Int) = ((List.length a1 : Nat) : Int)))) hb1 h
    try simp only [go_sem]
    refine seq_go ?_
    try simp only [go_sem]
    have hj := posF_to rfl rfl (l_eqPortS_l1_ok fuel a0 a1 0 _ h)
    refine loop_to hj (.one ⟨_, .done _, [], [], ?_⟩)
    clear hj
    try simp only [go_sem]
theorem l_eqAgent_ok (a0 : Agent) (a1 : Agent) (r : Bool) (h : l_eqAgent a0 a1 = some r) : AC Try.prog 368 [.agg (Agent.avs a0), .agg (Agent.avs a1)] (.bool r) := by
  unfold l_eqAgent at h
  refine ac_fn mixed Try.func368 rfl rfl rfl (by kernel_rfl) (by kernel_rfl) ?_
  try simp only [go_sem]
  refine cond_i (fun hb1 => ?_) (fun hb1 => ?_)
  · replace h := ifT (c := (!decide (a0.kind = a1.kind))) hb1 h
    try simp only [go_sem]
    replace h := Option.some.inj h
    obtain rfl := h
    simp only [go_sem]
  · replace h := ifF (c := (!decide (a0.kind = a1.kind))) hb1 h
    try simp only [go_sem]
    refine seq_go ?_
    try simp only [go_sem]
    refine cond_i (fun hb2 => ?_) (fun hb2 => ?_)
    · replace h := ifT (c := (!decide (a0.level = a1.level))) hb2 h
      try simp only [go_sem]
      replace h := Option.some.inj h
      obtain rfl := h
      simp only [go_sem]
    · replace h := ifF (c := (!decide (a0.level = a1.level))) hb2 h
      try simp only [go_sem]
      refine seq_go ?_
      try simp only [go_sem]
      refine cond_i (fun hb3 => ?_) (fun hb3 => ?_)
      · replace h := ifT (c := (!decide (a0.value = a1.value))) hb3 h
        try simp only [go_sem]
        replace h := Option.some.inj h
        obtain rfl := h
        simp only [go_sem]
      · replace h := ifF (c := (!decide (a0.value = a1.value))) hb3 h
        try simp only [go_sem]
        refine seq_go ?_
        try simp only [go_sem]
        replace h := bindE h
        obtain ⟨v8004, hv8004, h⟩ := h
        refine call_i (l_eqInt64S_ok _ _ _ hv8004) ?_
        try simp only [go_sem]
        refine cond_i (fun hb4 => ?_) (fun hb4 => ?_)
        · replace h := ifT (c := (!v8004)) hb4 h
          try simp only [go_sem]
          replace h := Option.some.inj h
          obtain rfl := h
          simp only [go_sem]
        · replace h := ifF (c := (!v8004)) hb4 h
          try simp only [go_sem]
          refine seq_go ?_
          try simp only [go_sem]
          replace h := bindE h
          obtain ⟨v10004, hv10004, h⟩ := h
          refine call_i (l_eqPortS_ok _ _ _ hv10004) ?_
          try simp only [go_sem]
          refine cond_i (fun hb5 => ?_) (fun hb5 => ?_)
          · replace h := ifT (c := (!v10004)) hb5 h
            try simp only [go_sem]
            replace h := Option.some.inj h
            obtain rfl := h
            simp only [go_sem]
          · replace h := ifF (c := (!v10004)) hb5 h
            try simp only [go_sem]
            refine seq_go ?_
            try simp only [go_sem]
            replace h := Option.some.inj h
            obtain rfl := h
            simp only [go_sem]
theorem l_eqAgentS_l1_all (n : Nat) : (∀ (a0 : List Agent) (a1 : List Agent) (p0_0 : Int) (r : Bool), l_eqAgentS_l1 n a0 a1 p0_0 = some r → posF Try.prog Try.f324 [1, 1, 0, 1, 0] (.bool r) ⟨[(0, .ro (List.map Agent.ds a0)), (1, .ro (List.map Agent.ds a1)), (5, .int .i64 p0_0)], [], []⟩) := by
  induction n with
  | zero => exact ((fun _ _ _ _ h => by rw [l_eqAgentS_l1] at h; cases h))
  | succ n ih =>
    have ih0 := ih
    · intro a0 a1 p0_0 r h
      rw [l_eqAgentS_l1] at h
      refine posF_of rfl rfl ?_
      try simp only [go_sem]
      refine loop_i ?_
      try simp only [go_sem]
      refine cond_i (fun hb2 => ?_) (fun hb2 => ?_)
      · replace h := ifT (c := (decide (p0_0 < ((List.length a0 : Nat) : Int)))) hb2 h
        try simp only [go_sem]
        refine seq_go ?_
        try simp only [go_sem]
        refine draw_i [] .fin (by kernel_rfl) ?_
        try simp only [go_sem]
        replace h := bindE h
        obtain ⟨v7002, hv7002, h⟩ := h
        refine idx_m hv7002 (Agent.ds_len _) ?_
        try simp only [go_sem]
        replace h := bindE h
        obtain ⟨v7006, hv7006, h⟩ := h
        refine idx_m hv7006 (Agent.ds_len _) ?_
        try simp only [go_sem]
        replace h := bindE h
        obtain ⟨v7008, hv7008, h⟩ := h
        refine call_i (l_eqAgent_ok _ _ _ hv7008) ?_
        try simp only [go_sem]
        refine seq_go ?_
        try simp only [go_sem]
        refine cond_i (fun hb3 => ?_) (fun hb3 => ?_)
        · replace h := ifT (c := (!v7008)) hb3 h
          try simp only [go_sem]
          replace h := Option.some.inj h
          obtain rfl := h
          simp only [go_sem]
        · replace h := ifF (c := (!v7008)) hb3 h
          try simp only [go_sem]
          refine seq_go ?_
          try simp only [go_sem]
          have hj := posF_to rfl rfl (ih0 a0 a1 (IntKind.i64.wrap (p0_0 + 1)) _ h)
          refine lp_to hj (.one ⟨_, .done _, [], [], ?_⟩)
          clear hj
          try simp only [go_sem]
      · replace h := ifF (c := (decide (p0_0 < ((List.length a0 : Nat) : Int)))) hb2 h
        try simp only [go_sem]
        refine seq_go ?_
        try simp only [go_sem]
        replace h := Option.some.inj h
        obtain rfl := h
        simp only [go_sem]
theorem l_eqAgentS_l1_ok (n : Nat) : (∀ (a0 : List Agent) (a1 : List Agent) (p0_0 : Int) (r : Bool), l_eqAgentS_l1 n a0 a1 p0_0 = some r → posF Try.prog Try.f324 [1, 1, 0, 1, 0] (.bool r) ⟨[(0, .ro (List.map Agent.ds a0)), (1, .ro (List.map Agent.ds a1)), (5, .int .i64 p0_0)], [], []⟩) := (l_eqAgentS_l1_all n)

theorem l_eqAgentS_ok (a0 : List Agent) (a1 : List Agent) (r : Bool) (h : l_eqAgentS a0 a1 = some r) : AC Try.prog 324 [.ro (List.map Agent.ds a0), .ro (List.map Agent.ds a1)] (.bool r) := by
  unfold l_eqAgentS at h
  refine ac_fn mixed Try.func324 rfl rfl rfl (by kernel_rfl) (by kernel_rfl) ?_
  try simp only [go_sem]
  refine cond_i (fun hb1 => ?_) (fun hb1 => ?_)
  · replace h := ifT (c := (!decide (((List.length a0 : Nat) : Int) = ((List.length a1 : Nat) : Int)))) hb1 h
    try simp only [go_sem]
    replace h := Option.some.inj h
    obtain rfl := h
    simp only [go_sem]
  · replace h := ifF (c := (!decide (((List.length a0 : Nat) : Int) = ((List.length a1 : Nat) : Int)))) hb1 h
    try simp only [go_sem]
    refine seq_go ?_
    try simp only [go_sem]
    have hj := posF_to rfl rfl (l_eqAgentS_l1_ok fuel a0 a1 0 _ h)
    refine loop_to hj (.one ⟨_, .done _, [], [], ?_⟩)
    clear hj
    try simp only [go_sem]
theorem l_eqNet_ok (a0 : Net) (a1 : Net) (r : Bool) (h : l_eqNet a0 a1 = some r) : AC Try.prog 281 [.agg (Net.avs a0), .agg (Net.avs a1)] (.bool r) := by
  unfold l_eqNet at h
  refine ac_fn mixed Try.func281 rfl rfl rfl (by kernel_rfl) (by kernel_rfl) ?_
  try simp only [go_sem]
  replace h := bindE h
  obtain ⟨v2004, hv2004, h⟩ := h
  refine call_i (l_eqAgentS_ok _ _ _ hv2004) ?_
  try simp only [go_sem]
  refine cond_i (fun hb1 => ?_) (fun hb1 => ?_)
  · replace h := ifT (c := (!v2004)) hb1 h
    try simp only [go_sem]
    replace h := Option.some.inj h
    obtain rfl := h
    simp only [go_sem]
  · replace h := ifF (c := (!v2004)) hb1 h
    try simp only [go_sem]
    refine seq_go ?_
    try simp only [go_sem]
    replace h := Option.some.inj h
    obtain rfl := h
    simp only [go_sem]
theorem l_eqNetS_l1_all (n : Nat) : (∀ (a0 : List Net) (a1 : List Net) (p0_0 : Int) (r : Bool), l_eqNetS_l1 n a0 a1 p0_0 = some r → posF Try.prog Try.f280 [1, 1, 0, 1, 0] (.bool r) ⟨[(0, .ro (List.map Net.ds a0)), (1, .ro (List.map Net.ds a1)), (5, .int .i64 p0_0)], [], []⟩) := by
  induction n with
  | zero => exact ((fun _ _ _ _ h => by rw [l_eqNetS_l1] at h; cases h))
  | succ n ih =>
    have ih0 := ih
    · intro a0 a1 p0_0 r h
      rw [l_eqNetS_l1] at h
      refine posF_of rfl rfl ?_
      try simp only [go_sem]
      refine loop_i ?_
      try simp only [go_sem]
      refine cond_i (fun hb2 => ?_) (fun hb2 => ?_)
      · replace h := ifT (c := (decide (p0_0 < ((List.length a0 : Nat) : Int)))) hb2 h
        try simp only [go_sem]
        refine seq_go ?_
        try simp only [go_sem]
        refine draw_i [] .fin (by kernel_rfl) ?_
        try simp only [go_sem]
        replace h := bindE h
        obtain ⟨v7002, hv7002, h⟩ := h
        refine idx_m hv7002 (Net.ds_len _) ?_
        try simp only [go_sem]
        replace h := bindE h
        obtain ⟨v7006, hv7006, h⟩ := h
        refine idx_m hv7006 (Net.ds_len _) ?_
        try simp only [go_sem]
        replace h := bindE h
        obtain ⟨v7008, hv7008, h⟩ := h
        refine call_i (l_eqNet_ok _ _ _ hv7008) ?_
        try simp only [go_sem]
        refine seq_go ?_
        try simp only [go_sem]
        refine cond_i (fun hb3 => ?_) (fun hb3 => ?_)
        · replace h := ifT (c := (!v7008)) hb3 h
          try simp only [go_sem]
          replace h := Option.some.inj h
          obtain rfl := h
          simp only [go_sem]
        · replace h := ifF (c := (!v7008)) hb3 h
          try simp only [go_sem]
          refine seq_go ?_
          try simp only [go_sem]
          have hj := posF_to rfl rfl (ih0 a0 a1 (IntKind.i64.wrap (p0_0 + 1)) _ h)
          refine lp_to hj (.one ⟨_, .done _, [], [], ?_⟩)
          clear hj
          try simp only [go_sem]
      · replace h := ifF (c := (decide (p0_0 < ((List.length a0 : Nat) : Int)))) hb2 h
        try simp only [go_sem]
        refine seq_go ?_
        try simp only [go_sem]
        replace h := Option.some.inj h
        obtain rfl := h
        simp only [go_sem]
theorem l_eqNetS_l1_ok (n : Nat) : (∀ (a0 : List Net) (a1 : List Net) (p0_0 : Int) (r : Bool), l_eqNetS_l1 n a0 a1 p0_0 = some r → posF Try.prog Try.f280 [1, 1, 0, 1, 0] (.bool r) ⟨[(0, .ro (List.map Net.ds a0)), (1, .ro (List.map Net.ds a1)), (5, .int .i64 p0_0)], [], []⟩) := (l_eqNetS_l1_all n)

theorem l_eqNetS_ok (a0 : List Net) (a1 : List Net) (r : Bool) (h : l_eqNetS a0 a1 = some r) : AC Try.prog 280 [.ro (List.map Net.ds a0), .ro (List.map Net.ds a1)] (.bool r) := by
  unfold l_eqNetS at h
  refine ac_fn mixed Try.func280 rfl rfl rfl (by kernel_rfl) (by kernel_rfl) ?_
  try simp only [go_sem]
  refine cond_i (fun hb1 => ?_) (fun hb1 => ?_)
  · replace h := ifT (c := (!decide (((List.length a0 : Nat) : Int) = ((List.length a1 : Nat) : Int)))) hb1 h
    try simp only [go_sem]
    replace h := Option.some.inj h
    obtain rfl := h
    simp only [go_sem]
  · replace h := ifF (c := (!decide (((List.length a0 : Nat) : Int) = ((List.length a1 : Nat) : Int)))) hb1 h
    try simp only [go_sem]
    refine seq_go ?_
    try simp only [go_sem]
    have hj := posF_to rfl rfl (l_eqNetS_l1_ok fuel a0 a1 0 _ h)
    refine loop_to hj (.one ⟨_, .done _, [], [], ?_⟩)
    clear hj
    try simp only [go_sem]
theorem l_eqJob_ok (a0 : Job) (a1 : Job) (r : Bool) (h : l_eqJob a0 a1 = some r) : AC Try.prog 203 [.agg (Job.avs a0), .agg (Job.avs a1)] (.bool r) := by
  unfold l_eqJob at h
  refine ac_fn mixed Try.func203 rfl rfl rfl (by kernel_rfl) (by kernel_rfl) ?_
  try simp only [go_sem]
  refine cond_i (fun hb1 => ?_) (fun hb1 => ?_)
  · replace h := ifT (c := (!decide (a0.id = a1.id))) hb1 h
    try simp only [go_sem]
    replace h := Option.some.inj h
    obtain rfl := h
    simp only [go_sem]
  · replace h := ifF (c := (!decide (a0.id = a1.id))) hb1 h
    try simp only [go_sem]
    refine seq_go ?_
    try simp only [go_sem]
    refine cond_i (fun hb2 => ?_) (fun hb2 => ?_)
    · replace h := ifT (c := (!decide (a0.weight = a1.weight))) hb2 h
      try simp only [go_sem]
      replace h := Option.some.inj h
      obtain rfl := h
      simp only [go_sem]
    · replace h := ifF (c := (!decide (a0.weight = a1.weight))) hb2 h
      try simp only [go_sem]
      refine seq_go ?_
      try simp only [go_sem]
      refine cond_i (fun hb3 => ?_) (fun hb3 => ?_)
      · replace h := ifT (c := (!decide (a0.state = a1.state))) hb3 h
        try simp only [go_sem]
        replace h := Option.some.inj h
        obtain rfl := h
        simp only [go_sem]
      · replace h := ifF (c := (!decide (a0.state = a1.state))) hb3 h
        try simp only [go_sem]
        refine seq_go ?_
        try simp only [go_sem]
        refine cond_i (fun hb4 => ?_) (fun hb4 => ?_)
        · replace h := ifT (c := (!decide (a0.code = a1.code))) hb4 h
          try simp only [go_sem]
          replace h := Option.some.inj h
          obtain rfl := h
          simp only [go_sem]
        · replace h := ifF (c := (!decide (a0.code = a1.code))) hb4 h
          try simp only [go_sem]
          refine seq_go ?_
          try simp only [go_sem]
          refine cond_i (fun hb5 => ?_) (fun hb5 => ?_)
          · replace h := ifT (c := (!decide (a0.left = a1.left))) hb5 h
            try simp only [go_sem]
            replace h := Option.some.inj h
            obtain rfl := h
            simp only [go_sem]
          · replace h := ifF (c := (!decide (a0.left = a1.left))) hb5 h
            try simp only [go_sem]
            refine seq_go ?_
            try simp only [go_sem]
            refine cond_i (fun hb6 => ?_) (fun hb6 => ?_)
            · replace h := ifT (c := (!decide (a0.slices = a1.slices))) hb6 h
              try simp only [go_sem]
              replace h := Option.some.inj h
              obtain rfl := h
              simp only [go_sem]
            · replace h := ifF (c := (!decide (a0.slices = a1.slices))) hb6 h
              try simp only [go_sem]
              refine seq_go ?_
              try simp only [go_sem]
              replace h := bindE h
              obtain ⟨v14004, hv14004, h⟩ := h
              refine call_i (l_eqInt64S_ok _ _ _ hv14004) ?_
              try simp only [go_sem]
              refine cond_i (fun hb7 => ?_) (fun hb7 => ?_)
              · replace h := ifT (c := (!v14004)) hb7 h
                try simp only [go_sem]
                replace h := Option.some.inj h
                obtain rfl := h
                simp only [go_sem]
              · replace h := ifF (c := (!v14004)) hb7 h
                try simp only [go_sem]
                refine seq_go ?_
                try simp only [go_sem]
                replace h := bindE h
                obtain ⟨v16004, hv16004, h⟩ := h
                refine call_i (l_eqInt64S_ok _ _ _ hv16004) ?_
                try simp only [go_sem]
                refine cond_i (fun hb8 => ?_) (fun hb8 => ?_)
                · replace h := ifT (c := (!v16004)) hb8 h
                  try simp only [go_sem]
                  replace h := Option.some.inj h
                  obtain rfl := h
                  simp only [go_sem]
                · replace h := ifF (c := (!v16004)) hb8 h
                  try simp only [go_sem]
                  refine seq_go ?_
                  try simp only [go_sem]
                  replace h := bindE h
                  obtain ⟨v18004, hv18004, h⟩ := h
                  refine call_i (l_eqNetS_ok _ _ _ hv18004) ?_
                  try simp only [go_sem]
                  refine cond_i (fun hb9 => ?_) (fun hb9 => ?_)
                  · replace h := ifT (c := (!v18004)) hb9 h
                    try simp only [go_sem]
                    replace h := Option.some.inj h
                    obtain rfl := h
                    simp only [go_sem]
                  · replace h := ifF (c := (!v18004)) hb9 h
                    try simp only [go_sem]
                    refine seq_go ?_
                    try simp only [go_sem]
                    replace h := bindE h
                    obtain ⟨v20004, hv20004, h⟩ := h
                    refine call_i (l_eqNet_ok _ _ _ hv20004) ?_
                    try simp only [go_sem]
                    refine cond_i (fun hb10 => ?_) (fun hb10 => ?_)
                    · replace h := ifT (c := (!v20004)) hb10 h
                      try simp only [go_sem]
                      replace h := Option.some.inj h
                      obtain rfl := h
                      simp only [go_sem]
                    · replace h := ifF (c := (!v20004)) hb10 h
                      try simp only [go_sem]
                      refine seq_go ?_
                      try simp only [go_sem]
                      replace h := Option.some.inj h
                      obtain rfl := h
                      simp only [go_sem]
theorem l_eqJobS_l1_all (n : Nat) : (∀ (a0 : List Job) (a1 : List Job) (p0_0 : Int) (r : Bool), l_eqJobS_l1 n a0 a1 p0_0 = some r → posF Try.prog Try.f110 [1, 1, 0, 1, 0] (.bool r) ⟨[(0, .ro (List.map Job.ds a0)), (1, .ro (List.map Job.ds a1)), (5, .int .i64 p0_0)], [], []⟩) := by
  induction n with
  | zero => exact ((fun _ _ _ _ h => by rw [l_eqJobS_l1] at h; cases h))
  | succ n ih =>
    have ih0 := ih
    · intro a0 a1 p0_0 r h
      rw [l_eqJobS_l1] at h
      refine posF_of rfl rfl ?_
      try simp only [go_sem]
      refine loop_i ?_
      try simp only [go_sem]
      refine cond_i (fun hb2 => ?_) (fun hb2 => ?_)
      · replace h := ifT (c := (decide (p0_0 < ((List.length a0 : Nat) : Int)))) hb2 h
        try simp only [go_sem]
        refine seq_go ?_
        try simp only [go_sem]
        refine draw_i [] .fin (by kernel_rfl) ?_
        try simp only [go_sem]
        replace h := bindE h
        obtain ⟨v7002, hv7002, h⟩ := h
        refine idx_m hv7002 (Job.ds_len _) ?_
        try simp only [go_sem]
        replace h := bindE h
        obtain ⟨v7006, hv7006, h⟩ := h
        refine idx_m hv7006 (Job.ds_len _) ?_
        try simp only [go_sem]
        replace h := bindE h
        obtain ⟨v7008, hv7008, h⟩ := h
        refine call_i (l_eqJob_ok _ _ _ hv7008) ?_
        try simp only [go_sem]
        refine seq_go ?_
        try simp only [go_sem]
        refine cond_i (fun hb3 => ?_) (fun hb3 => ?_)
        · replace h := ifT (c := (!v7008)) hb3 h
          try simp only [go_sem]
          replace h := Option.some.inj h
          obtain rfl := h
          simp only [go_sem]
        · replace h := ifF (c := (!v7008)) hb3 h
          try simp only [go_sem]
          refine seq_go ?_
          try simp only [go_sem]
          have hj := posF_to rfl rfl (ih0 a0 a1 (IntKind.i64.wrap (p0_0 + 1)) _ h)
          refine lp_to hj (.one ⟨_, .done _, [], [], ?_⟩)
          clear hj
          try simp only [go_sem]
      · replace h := ifF (c := (decide (p0_0 < ((List.length a0 : Nat) : Int)))) hb2 h
        try simp only [go_sem]
        refine seq_go ?_
        try simp only [go_sem]
        replace h := Option.some.inj h
        obtain rfl := h
        simp only [go_sem]
theorem l_eqJobS_l1_ok (n : Nat) : (∀ (a0 : List Job) (a1 : List Job) (p0_0 : Int) (r : Bool), l_eqJobS_l1 n a0 a1 p0_0 = some r → posF Try.prog Try.f110 [1, 1, 0, 1, 0] (.bool r) ⟨[(0, .ro (List.map Job.ds a0)), (1, .ro (List.map Job.ds a1)), (5, .int .i64 p0_0)], [], []⟩) := (l_eqJobS_l1_all n)

theorem l_eqJobS_ok (a0 : List Job) (a1 : List Job) (r : Bool) (h : l_eqJobS a0 a1 = some r) : AC Try.prog 110 [.ro (List.map Job.ds a0), .ro (List.map Job.ds a1)] (.bool r) := by
  unfold l_eqJobS at h
  refine ac_fn mixed Try.func110 rfl rfl rfl (by kernel_rfl) (by kernel_rfl) ?_
  try simp only [go_sem]
  refine cond_i (fun hb1 => ?_) (fun hb1 => ?_)
  · replace h := ifT (c := (!decide (((List.length a0 : Nat) : Int) = ((List.length a1 : Nat) : Int)))) hb1 h
    try simp only [go_sem]
    replace h := Option.some.inj h
    obtain rfl := h
    simp only [go_sem]
  · replace h := ifF (c := (!decide (((List.length a0 : Nat) : Int) = ((List.length a1 : Nat) : Int)))) hb1 h
    try simp only [go_sem]
    refine seq_go ?_
    try simp only [go_sem]
    have hj := posF_to rfl rfl (l_eqJobS_l1_ok fuel a0 a1 0 _ h)
    refine loop_to hj (.one ⟨_, .done _, [], [], ?_⟩)
    clear hj
    try simp only [go_sem]
theorem l_eqQueue_ok (a0 : Queue) (a1 : Queue) (r : Bool) (h : l_eqQueue a0 a1 = some r) : AC Try.prog 45 [.agg (Queue.avs a0), .agg (Queue.avs a1)] (.bool r) := by
  unfold l_eqQueue at h
  refine ac_fn mixed Try.func45 rfl rfl rfl (by kernel_rfl) (by kernel_rfl) ?_
  try simp only [go_sem]
  refine cond_i (fun hb1 => ?_) (fun hb1 => ?_)
  · replace h := ifT (c := (!decide (a0.quantum = a1.quantum))) hb1 h
    try simp only [go_sem]
    replace h := Option.some.inj h
    obtain rfl := h
    simp only [go_sem]
  · replace h := ifF (c := (!decide (a0.quantum = a1.quantum))) hb1 h
    try simp only [go_sem]
    refine seq_go ?_
    try simp only [go_sem]
    refine cond_i (fun hb2 => ?_) (fun hb2 => ?_)
    · replace h := ifT (c := (!decide (a0.nextId = a1.nextId))) hb2 h
      try simp only [go_sem]
      replace h := Option.some.inj h
      obtain rfl := h
      simp only [go_sem]
    · replace h := ifF (c := (!decide (a0.nextId = a1.nextId))) hb2 h
      try simp only [go_sem]
      refine seq_go ?_
      try simp only [go_sem]
      refine cond_i (fun hb3 => ?_) (fun hb3 => ?_)
      · replace h := ifT (c := (!decide (a0.turn = a1.turn))) hb3 h
        try simp only [go_sem]
        replace h := Option.some.inj h
        obtain rfl := h
        simp only [go_sem]
      · replace h := ifF (c := (!decide (a0.turn = a1.turn))) hb3 h
        try simp only [go_sem]
        refine seq_go ?_
        try simp only [go_sem]
        replace h := bindE h
        obtain ⟨v8004, hv8004, h⟩ := h
        refine call_i (l_eqJobS_ok _ _ _ hv8004) ?_
        try simp only [go_sem]
        refine cond_i (fun hb4 => ?_) (fun hb4 => ?_)
        · replace h := ifT (c := (!v8004)) hb4 h
          try simp only [go_sem]
          replace h := Option.some.inj h
          obtain rfl := h
          simp only [go_sem]
        · replace h := ifF (c := (!v8004)) hb4 h
          try simp only [go_sem]
          refine seq_go ?_
          try simp only [go_sem]
          replace h := Option.some.inj h
          obtain rfl := h
          simp only [go_sem]
end Go.Proofs.Ytffokcfdkkikmaa.Ab
