/-
  The functions do what their models say. Printed by wip/ab/gen.py.
-/
import Derived.Test.YtocpkbclcnjejaaModB
import Derived.Test.YtocpkbclcnjejaaTi2
import Derived.Test.YtocpkbclcnjejaaWlkC
namespace Go.Proofs.Ytocpkbclcnjejaa.Ab
set_option linter.unusedVariables false
set_option linter.unusedSimpArgs false
set_option maxRecDepth 20000
set_option maxHeartbeats 4000000
open Go.RowKit

theorem s_l11Before_ok (a0 : Port) (a1 : Port) (r : Bool) (h : s_l11Before a0 a1 = some r) : AC Try.prog 152 [.agg (Port.avs a0), .agg (Port.avs a1)] (.bool r) := by
  unfold s_l11Before at h
  refine ac_fn mixed Try.func152 rfl rfl rfl (by kernel_rfl) (by kernel_rfl) ?_
  try simp only [go_sem]
  refine cond_i (fun hb1 => ?_) (fun hb1 => ?_)
  · replace h := ifT (c := (decide (a0.agent < a1.agent))) hb1 h
    try simp only [go_sem]
    refine seq_go ?_
    try simp only [go_sem]
    replace h := Option.some.inj h
    obtain rfl := h
    simp only [go_sem]
  · replace h := ifF (c := (decide (a0.agent < a1.agent))) hb1 h
    try simp only [go_sem]
    refine cond_i (fun hb2 => ?_) (fun hb2 => ?_)
    · replace h := ifT (c := (decide (a0.agent = a1.agent))) hb2 h
      try simp only [go_sem]
      refine seq_go ?_
      try simp only [go_sem]
      replace h := Option.some.inj h
      obtain rfl := h
      simp only [go_sem]
    · replace h := ifF (c := (decide (a0.agent = a1.agent))) hb2 h
      try simp only [go_sem]
      refine seq_go ?_
      try simp only [go_sem]
      replace h := Option.some.inj h
      obtain rfl := h
      simp only [go_sem]
theorem s_l11Wires_l12_all (n : Nat) : (∀ (a0 : Net) (p3_0 : List Wire) (p3_1 : Int) (r : (List Wire)), s_l11Wires_l12 n a0 p3_0 p3_1 = some r → posF Try.prog Try.f93 [1, 1, 0, 1, 0] (.ow (some 4) (List.map Wire.ds r)) ⟨[(0, .rop [.ro (List.map Agent.ds a0.agents)] 0), (3, .own 1000003000), (4, .int .i64 p3_1)], [(1000003000, some ⟨List.map Wire.ds p3_0, some 4, 0⟩)], []⟩) ∧
    (∀ (a0 : Net) (p3_1 : Int) (p5_0 : List Wire) (p5_1 : Int) (r : (List Wire)), s_l11Wires_l14 n a0 p3_1 p5_0 p5_1 = some r → posF Try.prog Try.f93 [1, 1, 0, 1, 0, 0, 1, 0, 0, 1, 0] (.ow (some 4) (List.map Wire.ds r)) ⟨[(0, .rop [.ro (List.map Agent.ds a0.agents)] 0), (3, .own 1000005000), (4, .int .i64 p3_1), (5, .int .i64 p5_1)], [(1000005000, some ⟨List.map Wire.ds p5_0, some 4, 0⟩)], []⟩) := by
  induction n with
  | zero => exact ⟨(fun _ _ _ _ h => by rw [s_l11Wires_l12] at h; cases h), (fun _ _ _ _ _ h => by rw [s_l11Wires_l14] at h; cases h)⟩
  | succ n ih =>
    obtain ⟨ih0, ih1⟩ := ih
    refine ⟨?_, ?_⟩
    · intro a0 p3_0 p3_1 r h
      rw [s_l11Wires_l12] at h
      refine posF_of rfl rfl ?_
      try simp only [go_sem]
      refine loop_i ?_
      try simp only [go_sem]
      refine cond_i (fun hb1 => ?_) (fun hb1 => ?_)
      · replace h := ifT (c := (decide (p3_1 < ((List.length a0.agents : Nat) : Int)))) hb1 h
        try simp only [go_sem]
        refine seq_go ?_
        try simp only [go_sem]
        have hj := posF_to rfl rfl (ih1 a0 p3_1 p3_0 0 _ h)
        refine loop_to hj (.one ⟨_, .done _, [(1000005000, 1000003000)], [], ?_⟩)
        clear hj
        try simp only [go_sem]
      · replace h := ifF (c := (decide (p3_1 < ((List.length a0.agents : Nat) : Int)))) hb1 h
        try simp only [go_sem]
        refine seq_go ?_
        try simp only [go_sem]
        replace h := Option.some.inj h
        obtain rfl := h
        simp only [go_sem]
    · intro a0 p3_1 p5_0 p5_1 r h
      rw [s_l11Wires_l14] at h
      refine posF_of rfl rfl ?_
      try simp only [go_sem]
      refine loop_i ?_
      try simp only [go_sem]
      replace h := bindE h
      obtain ⟨v7006, hv7006, h⟩ := h
      refine idx_m hv7006 (Agent.ds_len _) ?_
      try simp only [go_sem]
      refine cond_i (fun hb2 => ?_) (fun hb2 => ?_)
      · replace h := ifT (c := (decide (p5_1 < ((List.length v7006.ports : Nat) : Int)))) hb2 h
        try simp only [go_sem]
        refine seq_go ?_
        try simp only [go_sem]
        refine draw_i [] .fin (by kernel_rfl) ?_
        try simp only [go_sem]
        replace h := bindE h
        obtain ⟨v10006, hv10006, h⟩ := h
        refine idx_m hv10006 (Agent.ds_len _) ?_
        try simp only [go_sem]
        replace h := bindE h
        obtain ⟨v10010, hv10010, h⟩ := h
        refine idx_m hv10010 (Port.ds_len _) ?_
        try simp only [go_sem]
        replace h := bindE h
        obtain ⟨v10012, hv10012, h⟩ := h
        refine call_i (s_l11Before_ok _ _ _ hv10012) ?_
        try simp only [go_sem]
        refine seq_go ?_
        try simp only [go_sem]
        refine cond_i (fun hb3 => ?_) (fun hb3 => ?_)
        · replace h := ifT (c := v10012) hb3 h
          try simp only [go_sem]
          refine draw_i [false, false, false, false, false, false, false, false, false, false, false, false, false, false, false, true, true] (Tr.sq [15, 16] .fin) (by kernel_rfl) ?_
          try simp only [go_sem]
          replace h := bindE h
          obtain ⟨v11007, hv11007, h⟩ := h
          refine idx_m hv11007 (Agent.ds_len _) ?_
          try simp only [go_sem]
          replace h := bindE h
          obtain ⟨v11011, hv11011, h⟩ := h
          refine idx_m hv11011 (Port.ds_len _) ?_
          try simp only [go_sem]
          replace h := bindE h
          obtain ⟨v11015, hv11015, h⟩ := h
          have hq_ := app_some hv11015
          obtain ⟨hv11015a, hv11015b⟩ := hq_
          refine and_i (by refine ⟨?_, ?_⟩ <;> (try simp only [List.length_map, List.length_append, List.length_cons, List.length_nil] at *) <;> (try unfold maxLen) <;> omega) ?_
          try simp only [go_sem]
          refine row_i (List.map Wire.ds v11015) (by rw [← hv11015b]; simp only [List.map_append, List.map_cons, List.map_nil, List.nil_append, List.append_nil, go_sem, Wire.ds_eq]) ?_
          try simp only [go_sem]
          refine seq_go ?_
          try simp only [go_sem]
          have hj := posF_to rfl rfl (ih1 a0 p3_1 v11015 (IntKind.i64.wrap (p5_1 + 1)) _ h)
          refine lp_to hj (.one ⟨_, .done _, [(1000005000, 176240)], [], ?_⟩)
          clear hj
          try simp only [go_sem]
        · replace h := ifF (c := v10012) hb3 h
          try simp only [go_sem]
          refine seq_go ?_
          try simp only [go_sem]
          have hj := posF_to rfl rfl (ih1 a0 p3_1 p5_0 (IntKind.i64.wrap (p5_1 + 1)) _ h)
          refine lp_to hj (.one ⟨_, .done _, [(1000005000, 1000005000)], [], ?_⟩)
          clear hj
          try simp only [go_sem]
      · replace h := ifF (c := (decide (p5_1 < ((List.length v7006.ports : Nat) : Int)))) hb2 h
        try simp only [go_sem]
        refine seq_go ?_
        try simp only [go_sem]
        have hj := posF_to rfl rfl (ih0 a0 p5_0 (IntKind.i64.wrap (p3_1 + 1)) _ h)
        refine lp_to hj (.one ⟨_, .done _, [(1000003000, 1000005000)], [], ?_⟩)
        clear hj
        try simp only [go_sem]
theorem s_l11Wires_l12_ok (n : Nat) : (∀ (a0 : Net) (p3_0 : List Wire) (p3_1 : Int) (r : (List Wire)), s_l11Wires_l12 n a0 p3_0 p3_1 = some r → posF Try.prog Try.f93 [1, 1, 0, 1, 0] (.ow (some 4) (List.map Wire.ds r)) ⟨[(0, .rop [.ro (List.map Agent.ds a0.agents)] 0), (3, .own 1000003000), (4, .int .i64 p3_1)], [(1000003000, some ⟨List.map Wire.ds p3_0, some 4, 0⟩)], []⟩) := (s_l11Wires_l12_all n).1
theorem s_l11Wires_l14_ok (n : Nat) : (∀ (a0 : Net) (p3_1 : Int) (p5_0 : List Wire) (p5_1 : Int) (r : (List Wire)), s_l11Wires_l14 n a0 p3_1 p5_0 p5_1 = some r → posF Try.prog Try.f93 [1, 1, 0, 1, 0, 0, 1, 0, 0, 1, 0] (.ow (some 4) (List.map Wire.ds r)) ⟨[(0, .rop [.ro (List.map Agent.ds a0.agents)] 0), (3, .own 1000005000), (4, .int .i64 p3_1), (5, .int .i64 p5_1)], [(1000005000, some ⟨List.map Wire.ds p5_0, some 4, 0⟩)], []⟩) := (s_l11Wires_l12_all n).2

theorem s_l11Wires_ok (a0 : Net) (r : (List Wire)) (h : s_l11Wires a0 = some r) : AC Try.prog 93 [.rop (Net.avs a0) 0] (.ow (some 4) (List.map Wire.ds r)) := by
  unfold s_l11Wires at h
  refine ac_fn mixed Try.func93 rfl rfl rfl (by kernel_rfl) (by kernel_rfl) ?_
  try simp only [go_sem]
  have hj := posF_to rfl rfl (s_l11Wires_l12_ok fuel a0 [] 0 _ h)
  refine loop_to hj (.one ⟨_, .lit 3 2000000000 2000 0 4 [] _ _ (by (first | rfl | (simp only [go_sem]; rfl))) (by simp only [go_sem]; rfl) (by (first | rfl | (simp only [go_sem]; rfl))) (by (first | rfl | (simp only [go_sem]; rfl))) (by decide) (by decide) (by simp only [go_sem]) (.done _), [(1000003000, 2000000000)], [], ?_⟩)
  clear hj
  simp only [go_sem]
  all_goals try rfl
theorem s_l33PutNet_l44_all (n : Nat) : (∀ (v25001 : (List Wire)) (p15_0 : List Int) (p15_1 : Int) (r : (List Int)), s_l33PutNet_l44 n v25001 p15_0 p15_1 = some r → posG Try.prog Try.f46 [1, 1, 1, 1, 0, 1, 0] (.own 1501) [(1501, ⟨List.map u8D r, some 1, 0⟩)] [] ⟨[(0, .own 1000015000), (8, .own 1000015001), (9, .int .i64 p15_1)], [(1000015000, some ⟨List.map u8D p15_0, some 1, 0⟩), (1000015001, some ⟨List.map Wire.ds v25001, some 4, 0⟩)], []⟩) := by
  induction n with
  | zero => exact ((fun _ _ _ _ h => by rw [s_l33PutNet_l44] at h; cases h))
  | succ n ih =>
    have ih0 := ih
    · intro v25001 p15_0 p15_1 r h
      rw [s_l33PutNet_l44] at h
      refine posG_of rfl rfl ?_
      try simp only [go_sem]
      refine loop_i ?_
      try simp only [go_sem]
      refine cond_i (fun hb7 => ?_) (fun hb7 => ?_)
      · replace h := ifT (c := (decide (p15_1 < ((List.length v25001 : Nat) : Int)))) hb7 h
        try simp only [go_sem]
        refine seq_go ?_
        try simp only [go_sem]
        refine draw_i [false, false, false, false, false, false, true, true, false, false, false, false, false, true, true, true, true, true] (.br 6 (.br 7 (Tr.sq [13, 14, 15, 16, 17] .fin) (.br 13 (.br 7 (Tr.sq [14, 15, 16, 17] .fin) (.br 14 (.br 7 (Tr.sq [15, 16, 17] .fin) (.br 15 (Tr.sq [7, 16, 17] .fin) .stop)) .stop)) .stop)) (.br 13 (.br 6 (.br 7 (Tr.sq [14, 15, 16, 17] .fin) (.br 14 (.br 7 (Tr.sq [15, 16, 17] .fin) (.br 15 (Tr.sq [7, 16, 17] .fin) .stop)) .stop)) (.br 14 (.br 6 (.br 7 (Tr.sq [15, 16, 17] .fin) (.br 15 (Tr.sq [7, 16, 17] .fin) .stop)) (.br 15 (Tr.sq [6, 7, 16, 17] .fin) .stop)) .stop)) .stop)) (by kernel_rfl) ?_
        try simp only [go_sem]
        replace h := bindE h
        obtain ⟨v29003, hv29003, h⟩ := h
        refine idx_m hv29003 (Wire.ds_len _) ?_
        try simp only [go_sem]
        replace h := bindE h
        obtain ⟨v29010, hv29010, h⟩ := h
        refine idx_m hv29010 (Wire.ds_len _) ?_
        try simp only [go_sem]
        refine alt_i ?_ ?_
        · try simp only [go_sem]
          refine opt_i (row_m hv29003) ?_
          try simp only [go_sem]
          refine alt_i ?_ ?_
          · try simp only [go_sem]
            replace h := bindE h
            obtain ⟨v29007, hv29007, h⟩ := h
            refine call_g ⟨[], [(1001, 1000015000)], [], [(1501, 464112)], [], true⟩ (by kernel_rfl) (s_l33Number_ok _ _ _ hv29007) (by kernel_rfl) ?_
            try simp only [go_sem]
            refine opt_i (row_m hv29010) ?_
            try simp only [go_sem]
            replace h := bindE h
            obtain ⟨v29016, hv29016, h⟩ := h
            have hq_ := app_some hv29016
            obtain ⟨hv29016a, hv29016b⟩ := hq_
            refine and_i (by refine ⟨?_, ?_⟩ <;> (try simp only [List.length_map, List.length_append, List.length_cons, List.length_nil] at *) <;> (try unfold maxLen) <;> omega) ?_
            try simp only [go_sem]
            refine row_i (List.map u8D v29016) (by rw [← hv29016b]; simp only [List.map_append, List.map_cons, List.map_nil, List.nil_append, List.append_nil, go_sem, slD]) ?_
            try simp only [go_sem]
            refine seq_go ?_
            try simp only [go_sem]
            have hj := posG_to rfl rfl (ih0 v25001 v29016 (IntKind.i64.wrap (p15_1 + 1)) _ h)
            refine lp_to hj (.one ⟨_, .done _, [(1000015000, 464256), (1000015001, 1000015001)], [], ?_⟩)
            clear hj
            try simp only [go_sem]
          · try simp only [go_sem]
            refine opt_i (row_m hv29010) ?_
            try simp only [go_sem]
            refine alt_i ?_ ?_
            · try simp only [go_sem]
              replace h := bindE h
              obtain ⟨v29007, hv29007, h⟩ := h
              refine call_g ⟨[], [(1001, 1000015000)], [], [(1501, 464112)], [], true⟩ (by kernel_rfl) (s_l33Number_ok _ _ _ hv29007) (by kernel_rfl) ?_
              try simp only [go_sem]
              replace h := bindE h
              obtain ⟨v29016, hv29016, h⟩ := h
              have hq_ := app_some hv29016
              obtain ⟨hv29016a, hv29016b⟩ := hq_
              refine and_i (by refine ⟨?_, ?_⟩ <;> (try simp only [List.length_map, List.length_append, List.length_cons, List.length_nil] at *) <;> (try unfold maxLen) <;> omega) ?_
              try simp only [go_sem]
              refine row_i (List.map u8D v29016) (by rw [← hv29016b]; simp only [List.map_append, List.map_cons, List.map_nil, List.nil_append, List.append_nil, go_sem, slD]) ?_
              try simp only [go_sem]
              refine seq_go ?_
              try simp only [go_sem]
              have hj := posG_to rfl rfl (ih0 v25001 v29016 (IntKind.i64.wrap (p15_1 + 1)) _ h)
              refine lp_to hj (.one ⟨_, .done _, [(1000015000, 464256), (1000015001, 1000015001)], [], ?_⟩)
              clear hj
              try simp only [go_sem]
            · try simp only [go_sem]
              refine alt_i ?_ ?_
              · try simp only [go_sem]
                replace h := bindE h
                obtain ⟨v29007, hv29007, h⟩ := h
                refine call_g ⟨[], [(1001, 1000015000)], [], [(1501, 464112)], [], true⟩ (by kernel_rfl) (s_l33Number_ok _ _ _ hv29007) (by kernel_rfl) ?_
                try simp only [go_sem]
                replace h := bindE h
                obtain ⟨v29016, hv29016, h⟩ := h
                have hq_ := app_some hv29016
                obtain ⟨hv29016a, hv29016b⟩ := hq_
                refine and_i (by refine ⟨?_, ?_⟩ <;> (try simp only [List.length_map, List.length_append, List.length_cons, List.length_nil] at *) <;> (try unfold maxLen) <;> omega) ?_
                try simp only [go_sem]
                refine row_i (List.map u8D v29016) (by rw [← hv29016b]; simp only [List.map_append, List.map_cons, List.map_nil, List.nil_append, List.append_nil, go_sem, slD]) ?_
                try simp only [go_sem]
                refine seq_go ?_
                try simp only [go_sem]
                have hj := posG_to rfl rfl (ih0 v25001 v29016 (IntKind.i64.wrap (p15_1 + 1)) _ h)
                refine lp_to hj (.one ⟨_, .done _, [(1000015000, 464256), (1000015001, 1000015001)], [], ?_⟩)
                clear hj
                try simp only [go_sem]
              · try simp only [go_sem]
                replace h := bindE h
                obtain ⟨v29007, hv29007, h⟩ := h
                refine call_g ⟨[], [(1001, 1000015000)], [], [(1501, 464112)], [], true⟩ (by kernel_rfl) (s_l33Number_ok _ _ _ hv29007) (by kernel_rfl) ?_
                try simp only [go_sem]
                replace h := bindE h
                obtain ⟨v29016, hv29016, h⟩ := h
                have hq_ := app_some hv29016
                obtain ⟨hv29016a, hv29016b⟩ := hq_
                refine and_i (by refine ⟨?_, ?_⟩ <;> (try simp only [List.length_map, List.length_append, List.length_cons, List.length_nil] at *) <;> (try unfold maxLen) <;> omega) ?_
                try simp only [go_sem]
                refine row_i (List.map u8D v29016) (by rw [← hv29016b]; simp only [List.map_append, List.map_cons, List.map_nil, List.nil_append, List.append_nil, go_sem, slD]) ?_
                try simp only [go_sem]
                refine seq_go ?_
                try simp only [go_sem]
                have hj := posG_to rfl rfl (ih0 v25001 v29016 (IntKind.i64.wrap (p15_1 + 1)) _ h)
                refine lp_to hj (.one ⟨_, .done _, [(1000015000, 464256), (1000015001, 1000015001)], [], ?_⟩)
                clear hj
                try simp only [go_sem]
        · try simp only [go_sem]
          refine opt_i (row_m hv29010) ?_
          try simp only [go_sem]
          refine alt_i ?_ ?_
          · try simp only [go_sem]
            refine opt_i (row_m hv29003) ?_
            try simp only [go_sem]
            refine alt_i ?_ ?_
            · try simp only [go_sem]
              replace h := bindE h
              obtain ⟨v29007, hv29007, h⟩ := h
              refine call_g ⟨[], [(1001, 1000015000)], [], [(1501, 464112)], [], true⟩ (by kernel_rfl) (s_l33Number_ok _ _ _ hv29007) (by kernel_rfl) ?_
              try simp only [go_sem]
              replace h := bindE h
              obtain ⟨v29016, hv29016, h⟩ := h
              have hq_ := app_some hv29016
              obtain ⟨hv29016a, hv29016b⟩ := hq_
              refine and_i (by refine ⟨?_, ?_⟩ <;> (try simp only [List.length_map, List.length_append, List.length_cons, List.length_nil] at *) <;> (try unfold maxLen) <;> omega) ?_
              try simp only [go_sem]
              refine row_i (List.map u8D v29016) (by rw [← hv29016b]; simp only [List.map_append, List.map_cons, List.map_nil, List.nil_append, List.append_nil, go_sem, slD]) ?_
              try simp only [go_sem]
              refine seq_go ?_
              try simp only [go_sem]
              have hj := posG_to rfl rfl (ih0 v25001 v29016 (IntKind.i64.wrap (p15_1 + 1)) _ h)
              refine lp_to hj (.one ⟨_, .done _, [(1000015000, 464256), (1000015001, 1000015001)], [], ?_⟩)
              clear hj
              try simp only [go_sem]
            · try simp only [go_sem]
              refine alt_i ?_ ?_
              · try simp only [go_sem]
                replace h := bindE h
                obtain ⟨v29007, hv29007, h⟩ := h
                refine call_g ⟨[], [(1001, 1000015000)], [], [(1501, 464112)], [], true⟩ (by kernel_rfl) (s_l33Number_ok _ _ _ hv29007) (by kernel_rfl) ?_
                try simp only [go_sem]
                replace h := bindE h
                obtain ⟨v29016, hv29016, h⟩ := h
                have hq_ := app_some hv29016
                obtain ⟨hv29016a, hv29016b⟩ := hq_
                refine and_i (by refine ⟨?_, ?_⟩ <;> (try simp only [List.length_map, List.length_append, List.length_cons, List.length_nil] at *) <;> (try unfold maxLen) <;> omega) ?_
                try simp only [go_sem]
                refine row_i (List.map u8D v29016) (by rw [← hv29016b]; simp only [List.map_append, List.map_cons, List.map_nil, List.nil_append, List.append_nil, go_sem, slD]) ?_
                try simp only [go_sem]
                refine seq_go ?_
                try simp only [go_sem]
                have hj := posG_to rfl rfl (ih0 v25001 v29016 (IntKind.i64.wrap (p15_1 + 1)) _ h)
                refine lp_to hj (.one ⟨_, .done _, [(1000015000, 464256), (1000015001, 1000015001)], [], ?_⟩)
                clear hj
                try simp only [go_sem]
              · try simp only [go_sem]
                replace h := bindE h
                obtain ⟨v29007, hv29007, h⟩ := h
                refine call_g ⟨[], [(1001, 1000015000)], [], [(1501, 464112)], [], true⟩ (by kernel_rfl) (s_l33Number_ok _ _ _ hv29007) (by kernel_rfl) ?_
                try simp only [go_sem]
                replace h := bindE h
                obtain ⟨v29016, hv29016, h⟩ := h
                have hq_ := app_some hv29016
                obtain ⟨hv29016a, hv29016b⟩ := hq_
                refine and_i (by refine ⟨?_, ?_⟩ <;> (try simp only [List.length_map, List.length_append, List.length_cons, List.length_nil] at *) <;> (try unfold maxLen) <;> omega) ?_
                try simp only [go_sem]
                refine row_i (List.map u8D v29016) (by rw [← hv29016b]; simp only [List.map_append, List.map_cons, List.map_nil, List.nil_append, List.append_nil, go_sem, slD]) ?_
                try simp only [go_sem]
                refine seq_go ?_
                try simp only [go_sem]
                have hj := posG_to rfl rfl (ih0 v25001 v29016 (IntKind.i64.wrap (p15_1 + 1)) _ h)
                refine lp_to hj (.one ⟨_, .done _, [(1000015000, 464256), (1000015001, 1000015001)], [], ?_⟩)
                clear hj
                try simp only [go_sem]
          · try simp only [go_sem]
            refine alt_i ?_ ?_
            · try simp only [go_sem]
              refine opt_i (row_m hv29003) ?_
              try simp only [go_sem]
              refine alt_i ?_ ?_
              · try simp only [go_sem]
                replace h := bindE h
                obtain ⟨v29007, hv29007, h⟩ := h
                refine call_g ⟨[], [(1001, 1000015000)], [], [(1501, 464112)], [], true⟩ (by kernel_rfl) (s_l33Number_ok _ _ _ hv29007) (by kernel_rfl) ?_
                try simp only [go_sem]
                replace h := bindE h
                obtain ⟨v29016, hv29016, h⟩ := h
                have hq_ := app_some hv29016
                obtain ⟨hv29016a, hv29016b⟩ := hq_
                refine and_i (by refine ⟨?_, ?_⟩ <;> (try simp only [List.length_map, List.length_append, List.length_cons, List.length_nil] at *) <;> (try unfold maxLen) <;> omega) ?_
                try simp only [go_sem]
                refine row_i (List.map u8D v29016) (by rw [← hv29016b]; simp only [List.map_append, List.map_cons, List.map_nil, List.nil_append, List.append_nil, go_sem, slD]) ?_
                try simp only [go_sem]
                refine seq_go ?_
                try simp only [go_sem]
                have hj := posG_to rfl rfl (ih0 v25001 v29016 (IntKind.i64.wrap (p15_1 + 1)) _ h)
                refine lp_to hj (.one ⟨_, .done _, [(1000015000, 464256), (1000015001, 1000015001)], [], ?_⟩)
                clear hj
                try simp only [go_sem]
              · try simp only [go_sem]
                replace h := bindE h
                obtain ⟨v29007, hv29007, h⟩ := h
                refine call_g ⟨[], [(1001, 1000015000)], [], [(1501, 464112)], [], true⟩ (by kernel_rfl) (s_l33Number_ok _ _ _ hv29007) (by kernel_rfl) ?_
                try simp only [go_sem]
                replace h := bindE h
                obtain ⟨v29016, hv29016, h⟩ := h
                have hq_ := app_some hv29016
                obtain ⟨hv29016a, hv29016b⟩ := hq_
                refine and_i (by refine ⟨?_, ?_⟩ <;> (try simp only [List.length_map, List.length_append, List.length_cons, List.length_nil] at *) <;> (try unfold maxLen) <;> omega) ?_
                try simp only [go_sem]
                refine row_i (List.map u8D v29016) (by rw [← hv29016b]; simp only [List.map_append, List.map_cons, List.map_nil, List.nil_append, List.append_nil, go_sem, slD]) ?_
                try simp only [go_sem]
                refine seq_go ?_
                try simp only [go_sem]
                have hj := posG_to rfl rfl (ih0 v25001 v29016 (IntKind.i64.wrap (p15_1 + 1)) _ h)
                refine lp_to hj (.one ⟨_, .done _, [(1000015000, 464256), (1000015001, 1000015001)], [], ?_⟩)
                clear hj
                try simp only [go_sem]
            · try simp only [go_sem]
              refine opt_i (row_m hv29003) ?_
              try simp only [go_sem]
              replace h := bindE h
              obtain ⟨v29007, hv29007, h⟩ := h
              refine call_g ⟨[], [(1001, 1000015000)], [], [(1501, 464112)], [], true⟩ (by kernel_rfl) (s_l33Number_ok _ _ _ hv29007) (by kernel_rfl) ?_
              try simp only [go_sem]
              replace h := bindE h
              obtain ⟨v29016, hv29016, h⟩ := h
              have hq_ := app_some hv29016
              obtain ⟨hv29016a, hv29016b⟩ := hq_
              refine and_i (by refine ⟨?_, ?_⟩ <;> (try simp only [List.length_map, List.length_append, List.length_cons, List.length_nil] at *) <;> (try unfold maxLen) <;> omega) ?_
              try simp only [go_sem]
              refine row_i (List.map u8D v29016) (by rw [← hv29016b]; simp only [List.map_append, List.map_cons, List.map_nil, List.nil_append, List.append_nil, go_sem, slD]) ?_
              try simp only [go_sem]
              refine seq_go ?_
              try simp only [go_sem]
              have hj := posG_to rfl rfl (ih0 v25001 v29016 (IntKind.i64.wrap (p15_1 + 1)) _ h)
              refine lp_to hj (.one ⟨_, .done _, [(1000015000, 464256), (1000015001, 1000015001)], [], ?_⟩)
              clear hj
              try simp only [go_sem]
      · replace h := ifF (c := (decide (p15_1 < ((List.length v25001 : Nat) : Int)))) hb7 h
        try simp only [go_sem]
        refine seq_go ?_
        try simp only [go_sem]
        replace h := Option.some.inj h
        obtain rfl := h
        refine ret_i (.done _) [(1501, 1000015000)] [] ?_
        simp only [go_sem]
theorem s_l33PutNet_l44_ok (n : Nat) : (∀ (v25001 : (List Wire)) (p15_0 : List Int) (p15_1 : Int) (r : (List Int)), s_l33PutNet_l44 n v25001 p15_0 p15_1 = some r → posG Try.prog Try.f46 [1, 1, 1, 1, 0, 1, 0] (.own 1501) [(1501, ⟨List.map u8D r, some 1, 0⟩)] [] ⟨[(0, .own 1000015000), (8, .own 1000015001), (9, .int .i64 p15_1)], [(1000015000, some ⟨List.map u8D p15_0, some 1, 0⟩), (1000015001, some ⟨List.map Wire.ds v25001, some 4, 0⟩)], []⟩) := (s_l33PutNet_l44_all n)

theorem s_l33PutNet_l37_all (n : Nat) : (∀ (a1 : Net) (p8_0 : List Int) (p8_1 : Int) (r : (List Int)), s_l33PutNet_l37 n a1 p8_0 p8_1 = some r → posG Try.prog Try.f46 [1, 1, 0, 1, 0] (.own 1501) [(1501, ⟨List.map u8D r, some 1, 0⟩)] [] ⟨[(0, .own 1000008000), (1, .rop [.ro (List.map Agent.ds a1.agents)] 0), (5, .int .i64 p8_1)], [(1000008000, some ⟨List.map u8D p8_0, some 1, 0⟩)], []⟩) ∧
    (∀ (a1 : Net) (p8_1 : Int) (v6005 : Agent) (p9_0 : List Int) (r : (List Int)), s_l33PutNet_j38 n a1 p8_1 v6005 p9_0 = some r → posG Try.prog Try.f46 [1, 1, 0, 1, 0, 0, 1, 0, 0, 1, 1, 1] (.own 1501) [(1501, ⟨List.map u8D r, some 1, 0⟩)] [] ⟨[(0, .own 1000009000), (1, .rop [.ro (List.map Agent.ds a1.agents)] 0), (5, .int .i64 p8_1), (6, .rop [.int .i64 v6005.kind, .int .i64 v6005.level, .int .i64 v6005.value, .ro (List.map i64D v6005.data), .ro (List.map Port.ds v6005.ports)] 0)], [(1000009000, some ⟨List.map u8D p9_0, some 1, 0⟩)], []⟩) ∧
    (∀ (a1 : Net) (p8_1 : Int) (p9_0 : List Int) (v6005 : Agent) (p10_0 : Bool) (r : (List Int)), s_l33PutNet_j39 n a1 p8_1 p9_0 v6005 p10_0 = some r → posG Try.prog Try.f46 [1, 1, 0, 1, 0, 0, 1, 0, 0, 1, 1, 1, 0, 1, 0, 1] (.own 1501) [(1501, ⟨List.map u8D r, some 1, 0⟩)] [] ⟨[(0, .own 1000010000), (1, .rop [.ro (List.map Agent.ds a1.agents)] 0), (5, .int .i64 p8_1), (6, .rop [.int .i64 v6005.kind, .int .i64 v6005.level, .int .i64 v6005.value, .ro (List.map i64D v6005.data), .ro (List.map Port.ds v6005.ports)] 0), (56, .int .i64 v6005.kind), (57, .bool p10_0)], [(1000010000, some ⟨List.map u8D p9_0, some 1, 0⟩)], []⟩) ∧
    (∀ (a1 : Net) (p8_1 : Int) (v6005 : Agent) (p11_0 : List Int) (r : (List Int)), s_l33PutNet_j40 n a1 p8_1 v6005 p11_0 = some r → posG Try.prog Try.f46 [1, 1, 0, 1, 0, 0, 1, 0, 0, 1, 1, 1, 1] (.own 1501) [(1501, ⟨List.map u8D r, some 1, 0⟩)] [] ⟨[(0, .own 1000011000), (1, .rop [.ro (List.map Agent.ds a1.agents)] 0), (5, .int .i64 p8_1), (6, .rop [.int .i64 v6005.kind, .int .i64 v6005.level, .int .i64 v6005.value, .ro (List.map i64D v6005.data), .ro (List.map Port.ds v6005.ports)] 0)], [(1000011000, some ⟨List.map u8D p11_0, some 1, 0⟩)], []⟩) ∧
    (∀ (a1 : Net) (p8_1 : Int) (v6005 : Agent) (p17_0 : List Int) (p17_1 : Int) (r : (List Int)), s_l33PutNet_l46 n a1 p8_1 v6005 p17_0 p17_1 = some r → posG Try.prog Try.f46 [1, 1, 0, 1, 0, 0, 1, 0, 0, 1, 1, 1, 1, 0, 1, 0] (.own 1501) [(1501, ⟨List.map u8D r, some 1, 0⟩)] [] ⟨[(0, .own 1000017000), (1, .rop [.ro (List.map Agent.ds a1.agents)] 0), (5, .int .i64 p8_1), (6, .rop [.int .i64 v6005.kind, .int .i64 v6005.level, .int .i64 v6005.value, .ro (List.map i64D v6005.data), .ro (List.map Port.ds v6005.ports)] 0), (7, .int .i64 p17_1)], [(1000017000, some ⟨List.map u8D p17_0, some 1, 0⟩)], []⟩) := by
  induction n with
  | zero => exact ⟨(fun _ _ _ _ h => by rw [s_l33PutNet_l37] at h; cases h), (fun _ _ _ _ _ h => by rw [s_l33PutNet_j38] at h; cases h), (fun _ _ _ _ _ _ h => by rw [s_l33PutNet_j39] at h; cases h), (fun _ _ _ _ _ h => by rw [s_l33PutNet_j40] at h; cases h), (fun _ _ _ _ _ _ h => by rw [s_l33PutNet_l46] at h; cases h)⟩
  | succ n ih =>
    obtain ⟨ih0, ih1, ih2, ih3, ih4⟩ := ih
    refine ⟨?_, ?_, ?_, ?_, ?_⟩
    · intro a1 p8_0 p8_1 r h
      rw [s_l33PutNet_l37] at h
      refine posG_of rfl rfl ?_
      try simp only [go_sem]
      refine loop_i ?_
      try simp only [go_sem]
      refine cond_i (fun hb1 => ?_) (fun hb1 => ?_)
      · replace h := ifT (c := (decide (p8_1 < ((List.length a1.agents : Nat) : Int)))) hb1 h
        try simp only [go_sem]
        refine seq_go ?_
        try simp only [go_sem]
        replace h := bindE h
        obtain ⟨v6005, hv6005, h⟩ := h
        refine idx_m hv6005 (Agent.ds_len _) ?_
        try simp only [go_sem]
        replace h := bindE h
        obtain ⟨v7007, hv7007, h⟩ := h
        have hq_ := app_some hv7007
        obtain ⟨hv7007a, hv7007b⟩ := hq_
        refine and_i (by refine ⟨?_, ?_⟩ <;> (try simp only [List.length_map, List.length_append, List.length_cons, List.length_nil] at *) <;> (try unfold maxLen) <;> omega) ?_
        try simp only [go_sem]
        refine row_i (List.map u8D v7007) (by rw [← hv7007b]; simp only [List.map_append, List.map_cons, List.map_nil, List.nil_append, List.append_nil, go_sem, slD]) ?_
        try simp only [go_sem]
        replace h := bindE h
        obtain ⟨v8004, hv8004, h⟩ := h
        refine call_i (s_HasLevel_ok _ _ hv8004) ?_
        try simp only [go_sem]
        refine cond_i (fun hb2 => ?_) (fun hb2 => ?_)
        · replace h := ifT (c := v8004) hb2 h
          try simp only [go_sem]
          replace h := bindE h
          obtain ⟨v9007, hv9007, h⟩ := h
          have hq_ := app_some hv9007
          obtain ⟨hv9007a, hv9007b⟩ := hq_
          refine and_i (by refine ⟨?_, ?_⟩ <;> (try simp only [List.length_map, List.length_append, List.length_cons, List.length_nil] at *) <;> (try unfold maxLen) <;> omega) ?_
          try simp only [go_sem]
          refine row_i (List.map u8D v9007) (by rw [← hv9007b]; simp only [List.map_append, List.map_cons, List.map_nil, List.nil_append, List.append_nil, go_sem, slD]) ?_
          try simp only [go_sem]
          have hj := posG_to rfl rfl (ih1 a1 p8_1 v6005 v9007 _ h)
          refine seq_to hj (.one ⟨_, .done _, [(1000009000, 144112)], [], ?_⟩)
          clear hj
          try simp only [go_sem]
        · replace h := ifF (c := v8004) hb2 h
          try simp only [go_sem]
          have hj := posG_to rfl rfl (ih1 a1 p8_1 v6005 v7007 _ h)
          refine seq_to hj (.one ⟨_, .done _, [(1000009000, 112112)], [], ?_⟩)
          clear hj
          try simp only [go_sem]
      · replace h := ifF (c := (decide (p8_1 < ((List.length a1.agents : Nat) : Int)))) hb1 h
        try simp only [go_sem]
        refine seq_go ?_
        try simp only [go_sem]
        replace h := bindE h
        obtain ⟨v25001, hv25001, h⟩ := h
        refine call_i (s_l11Wires_ok _ _ hv25001) ?_
        try simp only [go_sem]
        have hj := posG_to rfl rfl (s_l33PutNet_l44_ok fuel v25001 p8_0 0 _ h)
        refine loop_to hj (.one ⟨_, .done _, [(1000015000, 1000008000), (1000015001, 400016)], [], ?_⟩)
        clear hj
        try simp only [go_sem]
    · intro a1 p8_1 v6005 p9_0 r h
      rw [s_l33PutNet_j38] at h
      refine posG_of rfl rfl ?_
      try simp only [go_sem]
      refine cond_i (fun hb3 => ?_) (fun hb3 => ?_)
      · replace h := ifT (c := (decide (v6005.kind = 6))) hb3 h
        try simp only [go_sem]
        have hj := posG_to rfl rfl (ih2 a1 p8_1 p9_0 v6005 (decide (v6005.kind = 6)) _ h)
        refine seq_to hj (.one ⟨_, .done _, [(1000010000, 1000009000)], [], ?_⟩)
        clear hj
        try simp only [go_sem]
      · replace h := ifF (c := (decide (v6005.kind = 6))) hb3 h
        try simp only [go_sem]
        refine cond_i (fun hb4 => ?_) (fun hb4 => ?_)
        · replace h := ifT (c := (decide (v6005.kind = 7))) hb4 h
          try simp only [go_sem]
          have hj := posG_to rfl rfl (ih2 a1 p8_1 p9_0 v6005 (decide (v6005.kind = 7)) _ h)
          refine seq_to hj (.one ⟨_, .done _, [(1000010000, 1000009000)], [], ?_⟩)
          clear hj
          try simp only [go_sem]
        · replace h := ifF (c := (decide (v6005.kind = 7))) hb4 h
          try simp only [go_sem]
          refine cond_i (fun hb5 => ?_) (fun hb5 => ?_)
          · replace h := ifT (c := (decide (v6005.kind = 8))) hb5 h
            try simp only [go_sem]
            have hj := posG_to rfl rfl (ih2 a1 p8_1 p9_0 v6005 (decide (v6005.kind = 8)) _ h)
            refine seq_to hj (.one ⟨_, .done _, [(1000010000, 1000009000)], [], ?_⟩)
            clear hj
            try simp only [go_sem]
          · replace h := ifF (c := (decide (v6005.kind = 8))) hb5 h
            try simp only [go_sem]
            refine cond_i (fun hb6 => ?_) (fun hb6 => ?_)
            · replace h := ifT (c := (decide (v6005.kind = 12))) hb6 h
              try simp only [go_sem]
              have hj := posG_to rfl rfl (ih2 a1 p8_1 p9_0 v6005 (decide (v6005.kind = 12)) _ h)
              refine seq_to hj (.one ⟨_, .done _, [(1000010000, 1000009000)], [], ?_⟩)
              clear hj
              try simp only [go_sem]
            · replace h := ifF (c := (decide (v6005.kind = 12))) hb6 h
              try simp only [go_sem]
              have hj := posG_to rfl rfl (ih2 a1 p8_1 p9_0 v6005 (decide (v6005.kind = 9)) _ h)
              refine seq_to hj (.one ⟨_, .done _, [(1000010000, 1000009000)], [], ?_⟩)
              clear hj
              try simp only [go_sem]
    · intro a1 p8_1 p9_0 v6005 p10_0 r h
      rw [s_l33PutNet_j39] at h
      refine posG_of rfl rfl ?_
      try simp only [go_sem]
      refine cond_i (fun hb8 => ?_) (fun hb8 => ?_)
      · replace h := ifT (c := p10_0) hb8 h
        try simp only [go_sem]
        replace h := bindE h
        obtain ⟨v16005, hv16005, h⟩ := h
        refine call_g ⟨[], [(1001, 1000010000)], [], [(1501, 256080)], [], true⟩ (by kernel_rfl) (s_l33Number_ok _ _ _ hv16005) (by kernel_rfl) ?_
        try simp only [go_sem]
        have hj := posG_to rfl rfl (ih3 a1 p8_1 v6005 v16005 _ h)
        refine seq_to hj (.one ⟨_, .done _, [(1000011000, 256080)], [], ?_⟩)
        clear hj
        try simp only [go_sem]
      · replace h := ifF (c := p10_0) hb8 h
        try simp only [go_sem]
        refine cond_i (fun hb9 => ?_) (fun hb9 => ?_)
        · replace h := ifT (c := (decide (v6005.kind = 10))) hb9 h
          try simp only [go_sem]
          replace h := bindE h
          obtain ⟨v18008, hv18008, h⟩ := h
          have hq_ := app_some hv18008
          obtain ⟨hv18008a, hv18008b⟩ := hq_
          refine and_i (by refine ⟨?_, ?_⟩ <;> (try simp only [List.length_map, List.length_append, List.length_cons, List.length_nil] at *) <;> (try unfold maxLen) <;> omega) ?_
          try simp only [go_sem]
          refine row_i (List.map u8D v18008) (by rw [← hv18008b]; simp only [List.map_append, List.map_cons, List.map_nil, List.nil_append, List.append_nil, go_sem, slD]) ?_
          try simp only [go_sem]
          have hj := posG_to rfl rfl (ih3 a1 p8_1 v6005 v18008 _ h)
          refine seq_to hj (.one ⟨_, .done _, [(1000011000, 288128)], [], ?_⟩)
          clear hj
          try simp only [go_sem]
        · replace h := ifF (c := (decide (v6005.kind = 10))) hb9 h
          try simp only [go_sem]
          have hj := posG_to rfl rfl (ih3 a1 p8_1 v6005 p9_0 _ h)
          refine seq_to hj (.one ⟨_, .done _, [(1000011000, 1000010000)], [], ?_⟩)
          clear hj
          try simp only [go_sem]
    · intro a1 p8_1 v6005 p11_0 r h
      rw [s_l33PutNet_j40] at h
      refine posG_of rfl rfl ?_
      try simp only [go_sem]
      have hj := posG_to rfl rfl (ih4 a1 p8_1 v6005 p11_0 0 _ h)
      refine loop_to hj (.one ⟨_, .done _, [(1000017000, 1000011000)], [], ?_⟩)
      clear hj
      try simp only [go_sem]
    · intro a1 p8_1 v6005 p17_0 p17_1 r h
      rw [s_l33PutNet_l46] at h
      refine posG_of rfl rfl ?_
      try simp only [go_sem]
      refine loop_i ?_
      try simp only [go_sem]
      refine cond_i (fun hb10 => ?_) (fun hb10 => ?_)
      · replace h := ifT (c := (decide (p17_1 < ((List.length v6005.data : Nat) : Int)))) hb10 h
        try simp only [go_sem]
        refine seq_go ?_
        try simp only [go_sem]
        replace h := bindE h
        obtain ⟨v22006, hv22006, h⟩ := h
        refine idx_m hv22006 rfl ?_
        try simp only [go_sem]
        replace h := bindE h
        obtain ⟨v22008, hv22008, h⟩ := h
        refine call_g ⟨[], [(1001, 1000017000)], [], [(1501, 352128)], [], true⟩ (by kernel_rfl) (s_l33Number_ok _ _ _ hv22008) (by kernel_rfl) ?_
        try simp only [go_sem]
        refine seq_go ?_
        try simp only [go_sem]
        have hj := posG_to rfl rfl (ih4 a1 p8_1 v6005 v22008 (IntKind.i64.wrap (p17_1 + 1)) _ h)
        refine lp_to hj (.one ⟨_, .done _, [(1000017000, 352128)], [], ?_⟩)
        clear hj
        try simp only [go_sem]
      · replace h := ifF (c := (decide (p17_1 < ((List.length v6005.data : Nat) : Int)))) hb10 h
        try simp only [go_sem]
        refine seq_go ?_
        try simp only [go_sem]
        refine cond_i (fun hb11 => ?_) (fun hb11 => ?_)
        · replace h := ifT (c := (decide (v6005.kind = 9))) hb11 h
          try simp only [go_sem]
          replace h := bindE h
          obtain ⟨v24009, hv24009, h⟩ := h
          have hq_ := app_some hv24009
          obtain ⟨hv24009a, hv24009b⟩ := hq_
          refine and_i (by refine ⟨?_, ?_⟩ <;> (try simp only [List.length_map, List.length_append, List.length_cons, List.length_nil] at *) <;> (try unfold maxLen) <;> omega) ?_
          try simp only [go_sem]
          refine row_i (List.map u8D v24009) (by rw [← hv24009b]; simp only [List.map_append, List.map_cons, List.map_nil, List.nil_append, List.append_nil, go_sem, slD]) ?_
          try simp only [go_sem]
          refine seq_go ?_
          try simp only [go_sem]
          have hj := posG_to rfl rfl (ih0 a1 v24009 (IntKind.i64.wrap (p8_1 + 1)) _ h)
          refine lp_to hj (.one ⟨_, .done _, [(1000008000, 384144)], [], ?_⟩)
          clear hj
          try simp only [go_sem]
        · replace h := ifF (c := (decide (v6005.kind = 9))) hb11 h
          try simp only [go_sem]
          refine seq_go ?_
          try simp only [go_sem]
          have hj := posG_to rfl rfl (ih0 a1 p17_0 (IntKind.i64.wrap (p8_1 + 1)) _ h)
          refine lp_to hj (.one ⟨_, .done _, [(1000008000, 1000017000)], [], ?_⟩)
          clear hj
          try simp only [go_sem]
theorem s_l33PutNet_l37_ok (n : Nat) : (∀ (a1 : Net) (p8_0 : List Int) (p8_1 : Int) (r : (List Int)), s_l33PutNet_l37 n a1 p8_0 p8_1 = some r → posG Try.prog Try.f46 [1, 1, 0, 1, 0] (.own 1501) [(1501, ⟨List.map u8D r, some 1, 0⟩)] [] ⟨[(0, .own 1000008000), (1, .rop [.ro (List.map Agent.ds a1.agents)] 0), (5, .int .i64 p8_1)], [(1000008000, some ⟨List.map u8D p8_0, some 1, 0⟩)], []⟩) := (s_l33PutNet_l37_all n).1
theorem s_l33PutNet_j38_ok (n : Nat) : (∀ (a1 : Net) (p8_1 : Int) (v6005 : Agent) (p9_0 : List Int) (r : (List Int)), s_l33PutNet_j38 n a1 p8_1 v6005 p9_0 = some r → posG Try.prog Try.f46 [1, 1, 0, 1, 0, 0, 1, 0, 0, 1, 1, 1] (.own 1501) [(1501, ⟨List.map u8D r, some 1, 0⟩)] [] ⟨[(0, .own 1000009000), (1, .rop [.ro (List.map Agent.ds a1.agents)] 0), (5, .int .i64 p8_1), (6, .rop [.int .i64 v6005.kind, .int .i64 v6005.level, .int .i64 v6005.value, .ro (List.map i64D v6005.data), .ro (List.map Port.ds v6005.ports)] 0)], [(1000009000, some ⟨List.map u8D p9_0, some 1, 0⟩)], []⟩) := (s_l33PutNet_l37_all n).2.1
theorem s_l33PutNet_j39_ok (n : Nat) : (∀ (a1 : Net) (p8_1 : Int) (p9_0 : List Int) (v6005 : Agent) (p10_0 : Bool) (r : (List Int)), s_l33PutNet_j39 n a1 p8_1 p9_0 v6005 p10_0 = some r → posG Try.prog Try.f46 [1, 1, 0, 1, 0, 0, 1, 0, 0, 1, 1, 1, 0, 1, 0, 1] (.own 1501) [(1501, ⟨List.map u8D r, some 1, 0⟩)] [] ⟨[(0, .own 1000010000), (1, .rop [.ro (List.map Agent.ds a1.agents)] 0), (5, .int .i64 p8_1), (6, .rop [.int .i64 v6005.kind, .int .i64 v6005.level, .int .i64 v6005.value, .ro (List.map i64D v6005.data), .ro (List.map Port.ds v6005.ports)] 0), (56, .int .i64 v6005.kind), (57, .bool p10_0)], [(1000010000, some ⟨List.map u8D p9_0, some 1, 0⟩)], []⟩) := (s_l33PutNet_l37_all n).2.2.1
theorem s_l33PutNet_j40_ok (n : Nat) : (∀ (a1 : Net) (p8_1 : Int) (v6005 : Agent) (p11_0 : List Int) (r : (List Int)), s_l33PutNet_j40 n a1 p8_1 v6005 p11_0 = some r → posG Try.prog Try.f46 [1, 1, 0, 1, 0, 0, 1, 0, 0, 1, 1, 1, 1] (.own 1501) [(1501, ⟨List.map u8D r, some 1, 0⟩)] [] ⟨[(0, .own 1000011000), (1, .rop [.ro (List.map Agent.ds a1.agents)] 0), (5, .int .i64 p8_1), (6, .rop [.int .i64 v6005.kind, .int .i64 v6005.level, .int .i64 v6005.value, .ro (List.map i64D v6005.data), .ro (List.map Port.ds v6005.ports)] 0)], [(1000011000, some ⟨List.map u8D p11_0, some 1, 0⟩)], []⟩) := (s_l33PutNet_l37_all n).2.2.2.1
theorem s_l33PutNet_l46_ok (n : Nat) : (∀ (a1 : Net) (p8_1 : Int) (v6005 : Agent) (p17_0 : List Int) (p17_1 : Int) (r : (List Int)), s_l33PutNet_l46 n a1 p8_1 v6005 p17_0 p17_1 = some r → posG Try.prog Try.f46 [1, 1, 0, 1, 0, 0, 1, 0, 0, 1, 1, 1, 1, 0, 1, 0] (.own 1501) [(1501, ⟨List.map u8D r, some 1, 0⟩)] [] ⟨[(0, .own 1000017000), (1, .rop [.ro (List.map Agent.ds a1.agents)] 0), (5, .int .i64 p8_1), (6, .rop [.int .i64 v6005.kind, .int .i64 v6005.level, .int .i64 v6005.value, .ro (List.map i64D v6005.data), .ro (List.map Port.ds v6005.ports)] 0), (7, .int .i64 p17_1)], [(1000017000, some ⟨List.map u8D p17_0, some 1, 0⟩)], []⟩) := (s_l33PutNet_l37_all n).2.2.2.2

theorem s_l33PutNet_ok (a0 : List Int) (a1 : Net) (r : (List Int)) (h : s_l33PutNet a0 a1 = some r) : AG Try.prog 46 [.own 1001, .rop [.ro (List.map Agent.ds a1.agents)] 0] [(1001, ⟨List.map u8D a0, some 1, 0⟩)] [] (.own 1501) [(1501, ⟨List.map u8D r, some 1, 0⟩)] [] := by
  unfold s_l33PutNet at h
  refine ag_fn mixed Try.func46 rfl rfl rfl (by kernel_rfl) (by kernel_rfl) ?_
  try simp only [go_sem]
  replace h := bindE h
  obtain ⟨v2006, hv2006, h⟩ := h
  refine call_g ⟨[], [(1001, 1001)], [], [(1501, 32096)], [], true⟩ (by kernel_rfl) (s_l33Number_ok _ _ _ hv2006) (by kernel_rfl) ?_
  try simp only [go_sem]
  have hj := posG_to rfl rfl (s_l33PutNet_l37_ok fuel a1 v2006 1 _ h)
  refine loop_to hj (.one ⟨_, .done _, [(1000008000, 32096)], [], ?_⟩)
  clear hj
  try simp only [go_sem]
theorem s_EncodeNet_ok (a0 : Net) (r : (List Int) × Int) (h : s_EncodeNet a0 = some r) : AC Try.prog 9 [.agg (Net.avs a0)] (.tup [.ow (some 1) (List.map u8D r.1), .int .i64 r.2]) := by
  unfold s_EncodeNet at h
  refine ac_fn mixed Try.func9 rfl rfl rfl (by kernel_rfl) (by kernel_rfl) ?_
  try simp only [go_sem]
  replace h := bindE h
  obtain ⟨v2000, hv2000, h⟩ := h
  refine call_i (s_l11Ok_ok _ _ hv2000) ?_
  try simp only [go_sem]
  refine cond_i (fun hb1 => ?_) (fun hb1 => ?_)
  · replace h := ifT (c := (!v2000)) hb1 h
    try simp only [go_sem]
    replace h := Option.some.inj h
    obtain rfl := h
    simp only [go_sem]
  · replace h := ifF (c := (!v2000)) hb1 h
    try simp only [go_sem]
    refine seq_go ?_
    try simp only [go_sem]
    replace h := bindE h
    obtain ⟨v4001, hv4001, h⟩ := h
    refine call_g ⟨[(3000064016, .bsl 4000 0 1, some 1)], [(1001, 3000064016)], [], [(1501, 64016)], [], false⟩ (by kernel_rfl) (s_l33PutNet_ok _ _ _ hv4001) (by kernel_rfl) ?_
    try simp only [go_sem]
    replace h := bindE h
    obtain ⟨v4002, hv4002, h⟩ := h
    refine call_i (s_l33Close_ok _ _ _ hv4002) ?_
    try simp only [go_sem]
    replace h := Option.some.inj h
    obtain rfl := h
    simp only [go_sem]
theorem i_hasValue_ok (a0 : Int) (r : Bool) (h : i_hasValue a0 = some r) : AC Try.prog 104 [.int .i64 a0] (.bool r) := by
  unfold i_hasValue at h
  refine ac_fn mixed Try.func104 rfl rfl rfl (by kernel_rfl) (by kernel_rfl) ?_
  try simp only [go_sem]
  refine cond_i (fun hb1 => ?_) (fun hb1 => ?_)
  · replace h := ifT (c := (decide (a0 = 6))) hb1 h
    try simp only [go_sem]
    refine seq_go ?_
    try simp only [go_sem]
    replace h := Option.some.inj h
    obtain rfl := h
    simp only [go_sem]
  · replace h := ifF (c := (decide (a0 = 6))) hb1 h
    try simp only [go_sem]
    refine cond_i (fun hb2 => ?_) (fun hb2 => ?_)
    · replace h := ifT (c := (decide (a0 = 7))) hb2 h
      try simp only [go_sem]
      refine seq_go ?_
      try simp only [go_sem]
      replace h := Option.some.inj h
      obtain rfl := h
      simp only [go_sem]
    · replace h := ifF (c := (decide (a0 = 7))) hb2 h
      try simp only [go_sem]
      refine cond_i (fun hb3 => ?_) (fun hb3 => ?_)
      · replace h := ifT (c := (decide (a0 = 8))) hb3 h
        try simp only [go_sem]
        refine seq_go ?_
        try simp only [go_sem]
        replace h := Option.some.inj h
        obtain rfl := h
        simp only [go_sem]
      · replace h := ifF (c := (decide (a0 = 8))) hb3 h
        try simp only [go_sem]
        refine cond_i (fun hb4 => ?_) (fun hb4 => ?_)
        · replace h := ifT (c := (decide (a0 = 12))) hb4 h
          try simp only [go_sem]
          refine seq_go ?_
          try simp only [go_sem]
          replace h := Option.some.inj h
          obtain rfl := h
          simp only [go_sem]
        · replace h := ifF (c := (decide (a0 = 12))) hb4 h
          try simp only [go_sem]
          refine seq_go ?_
          try simp only [go_sem]
          replace h := Option.some.inj h
          obtain rfl := h
          simp only [go_sem]
theorem i_Port_before_ok (a0 : Port) (a1 : Port) (r : Bool) (h : i_Port_before a0 a1 = some r) : AC Try.prog 105 [.agg (Port.avs a0), .agg (Port.avs a1)] (.bool r) := by
  unfold i_Port_before at h
  refine ac_fn mixed Try.func105 rfl rfl rfl (by kernel_rfl) (by kernel_rfl) ?_
  try simp only [go_sem]
  refine cond_i (fun hb1 => ?_) (fun hb1 => ?_)
  · replace h := ifT (c := (decide (a0.agent < a1.agent))) hb1 h
    try simp only [go_sem]
    refine seq_go ?_
    try simp only [go_sem]
    replace h := Option.some.inj h
    obtain rfl := h
    simp only [go_sem]
  · replace h := ifF (c := (decide (a0.agent < a1.agent))) hb1 h
    try simp only [go_sem]
    refine cond_i (fun hb2 => ?_) (fun hb2 => ?_)
    · replace h := ifT (c := (decide (a0.agent = a1.agent))) hb2 h
      try simp only [go_sem]
      refine seq_go ?_
      try simp only [go_sem]
      replace h := Option.some.inj h
      obtain rfl := h
      simp only [go_sem]
    · replace h := ifF (c := (decide (a0.agent = a1.agent))) hb2 h
      try simp only [go_sem]
      refine seq_go ?_
      try simp only [go_sem]
      replace h := Option.some.inj h
      obtain rfl := h
      simp only [go_sem]
theorem i_appendNet_l44_all (n : Nat) : (∀ (a1 : Net) (v21000 : (List Port)) (p15_0 : List Int) (p15_1 : Int) (r : (List Int)), i_appendNet_l44 n a1 v21000 p15_0 p15_1 = some r → posG Try.prog Try.f50 [1, 1, 1, 0, 1, 0] (.own 1501) [(1501, ⟨List.map u8D r, some 1, 0⟩)] [] ⟨[(0, .own 1000015000), (3, .box 1000015500 0), (80, .own 1000015001), (81, .int .i64 ((List.length v21000 : Nat) : Int)), (82, .int .i64 p15_1)], [(1000015000, some ⟨List.map u8D p15_0, some 1, 0⟩), (1000015001, some ⟨List.map Port.ds v21000, some 2, 0⟩)], [(1000015500, some [.ro (List.map Agent.ds a1.agents)])]⟩) := by
  induction n with
  | zero => exact ((fun _ _ _ _ _ h => by rw [i_appendNet_l44] at h; cases h))
  | succ n ih =>
    have ih0 := ih
    · intro a1 v21000 p15_0 p15_1 r h
      rw [i_appendNet_l44] at h
      refine posG_of rfl rfl ?_
      try simp only [go_sem]
      refine loop_i ?_
      try simp only [go_sem]
      refine cond_i (fun hb4 => ?_) (fun hb4 => ?_)
      · replace h := ifT (c := (decide (p15_1 < ((List.length v21000 : Nat) : Int)))) hb4 h
        try simp only [go_sem]
        refine seq_go ?_
        try simp only [go_sem]
        replace h := bindE h
        obtain ⟨v23000, hv23000, h⟩ := h
        refine idx_m hv23000 (Port.ds_len _) ?_
        try simp only [go_sem]
        refine opt_i (row_m hv23000) ?_
        try simp only [go_sem]
        replace h := bindE h
        obtain ⟨v24001, hv24001, h⟩ := h
        refine call_i (i_Net_peer_ok _ _ _ hv24001) ?_
        try simp only [go_sem]
        replace h := bindE h
        obtain ⟨v25002, hv25002, h⟩ := h
        refine call_i (i_Port_before_ok _ _ _ hv25002) ?_
        try simp only [go_sem]
        refine cond_i (fun hb5 => ?_) (fun hb5 => ?_)
        · replace h := ifT (c := v25002) hb5 h
          try simp only [go_sem]
          refine draw_i [false, false, true, true, false, true, true, true, true, true] (.br 2 (.br 3 (Tr.sq [5, 6, 7, 8, 9] .fin) (.br 5 (.br 3 (Tr.sq [6, 7, 8, 9] .fin) (.br 6 (.br 3 (Tr.sq [7, 8, 9] .fin) (.br 7 (Tr.sq [3, 8, 9] .fin) .stop)) .stop)) .stop)) (.br 5 (.br 2 (.br 3 (Tr.sq [6, 7, 8, 9] .fin) (.br 6 (.br 3 (Tr.sq [7, 8, 9] .fin) (.br 7 (Tr.sq [3, 8, 9] .fin) .stop)) .stop)) (.br 6 (.br 2 (.br 3 (Tr.sq [7, 8, 9] .fin) (.br 7 (Tr.sq [3, 8, 9] .fin) .stop)) (.br 7 (Tr.sq [2, 3, 8, 9] .fin) .stop)) .stop)) .stop)) (by kernel_rfl) ?_
          try simp only [go_sem]
          refine alt_i ?_ ?_
          · try simp only [go_sem]
            refine alt_i ?_ ?_
            · try simp only [go_sem]
              replace h := bindE h
              obtain ⟨v26003, hv26003, h⟩ := h
              refine call_g ⟨[], [(1001, 1000015000)], [], [(1501, 416048)], [], true⟩ (by kernel_rfl) (i_appendNumber_ok _ _ _ hv26003) (by kernel_rfl) ?_
              try simp only [go_sem]
              replace h := bindE h
              obtain ⟨v26008, hv26008, h⟩ := h
              have hq_ := app_some hv26008
              obtain ⟨hv26008a, hv26008b⟩ := hq_
              refine and_i (by refine ⟨?_, ?_⟩ <;> (try simp only [List.length_map, List.length_append, List.length_cons, List.length_nil] at *) <;> (try unfold maxLen) <;> omega) ?_
              try simp only [go_sem]
              refine row_i (List.map u8D v26008) (by rw [← hv26008b]; simp only [List.map_append, List.map_cons, List.map_nil, List.nil_append, List.append_nil, go_sem, slD]) ?_
              try simp only [go_sem]
              refine seq_go ?_
              try simp only [go_sem]
              have hj := posG_to rfl rfl (ih0 a1 v21000 v26008 (IntKind.i64.wrap (p15_1 + 1)) _ h)
              refine lp_to hj (.one ⟨_, .done _, [(1000015000, 416128), (1000015001, 1000015001)], [(1000015500, 1000015500)], ?_⟩)
              clear hj
              try simp only [go_sem]
            · try simp only [go_sem]
              refine alt_i ?_ ?_
              · try simp only [go_sem]
                replace h := bindE h
                obtain ⟨v26003, hv26003, h⟩ := h
                refine call_g ⟨[], [(1001, 1000015000)], [], [(1501, 416048)], [], true⟩ (by kernel_rfl) (i_appendNumber_ok _ _ _ hv26003) (by kernel_rfl) ?_
                try simp only [go_sem]
                replace h := bindE h
                obtain ⟨v26008, hv26008, h⟩ := h
                have hq_ := app_some hv26008
                obtain ⟨hv26008a, hv26008b⟩ := hq_
                refine and_i (by refine ⟨?_, ?_⟩ <;> (try simp only [List.length_map, List.length_append, List.length_cons, List.length_nil] at *) <;> (try unfold maxLen) <;> omega) ?_
                try simp only [go_sem]
                refine row_i (List.map u8D v26008) (by rw [← hv26008b]; simp only [List.map_append, List.map_cons, List.map_nil, List.nil_append, List.append_nil, go_sem, slD]) ?_
                try simp only [go_sem]
                refine seq_go ?_
                try simp only [go_sem]
                have hj := posG_to rfl rfl (ih0 a1 v21000 v26008 (IntKind.i64.wrap (p15_1 + 1)) _ h)
                refine lp_to hj (.one ⟨_, .done _, [(1000015000, 416128), (1000015001, 1000015001)], [(1000015500, 1000015500)], ?_⟩)
                clear hj
                try simp only [go_sem]
              · try simp only [go_sem]
                refine alt_i ?_ ?_
                · try simp only [go_sem]
                  replace h := bindE h
                  obtain ⟨v26003, hv26003, h⟩ := h
                  refine call_g ⟨[], [(1001, 1000015000)], [], [(1501, 416048)], [], true⟩ (by kernel_rfl) (i_appendNumber_ok _ _ _ hv26003) (by kernel_rfl) ?_
                  try simp only [go_sem]
                  replace h := bindE h
                  obtain ⟨v26008, hv26008, h⟩ := h
                  have hq_ := app_some hv26008
                  obtain ⟨hv26008a, hv26008b⟩ := hq_
                  refine and_i (by refine ⟨?_, ?_⟩ <;> (try simp only [List.length_map, List.length_append, List.length_cons, List.length_nil] at *) <;> (try unfold maxLen) <;> omega) ?_
                  try simp only [go_sem]
                  refine row_i (List.map u8D v26008) (by rw [← hv26008b]; simp only [List.map_append, List.map_cons, List.map_nil, List.nil_append, List.append_nil, go_sem, slD]) ?_
                  try simp only [go_sem]
                  refine seq_go ?_
                  try simp only [go_sem]
                  have hj := posG_to rfl rfl (ih0 a1 v21000 v26008 (IntKind.i64.wrap (p15_1 + 1)) _ h)
                  refine lp_to hj (.one ⟨_, .done _, [(1000015000, 416128), (1000015001, 1000015001)], [(1000015500, 1000015500)], ?_⟩)
                  clear hj
                  try simp only [go_sem]
                · try simp only [go_sem]
                  replace h := bindE h
                  obtain ⟨v26003, hv26003, h⟩ := h
                  refine call_g ⟨[], [(1001, 1000015000)], [], [(1501, 416048)], [], true⟩ (by kernel_rfl) (i_appendNumber_ok _ _ _ hv26003) (by kernel_rfl) ?_
                  try simp only [go_sem]
                  replace h := bindE h
                  obtain ⟨v26008, hv26008, h⟩ := h
                  have hq_ := app_some hv26008
                  obtain ⟨hv26008a, hv26008b⟩ := hq_
                  refine and_i (by refine ⟨?_, ?_⟩ <;> (try simp only [List.length_map, List.length_append, List.length_cons, List.length_nil] at *) <;> (try unfold maxLen) <;> omega) ?_
                  try simp only [go_sem]
                  refine row_i (List.map u8D v26008) (by rw [← hv26008b]; simp only [List.map_append, List.map_cons, List.map_nil, List.nil_append, List.append_nil, go_sem, slD]) ?_
                  try simp only [go_sem]
                  refine seq_go ?_
                  try simp only [go_sem]
                  have hj := posG_to rfl rfl (ih0 a1 v21000 v26008 (IntKind.i64.wrap (p15_1 + 1)) _ h)
                  refine lp_to hj (.one ⟨_, .done _, [(1000015000, 416128), (1000015001, 1000015001)], [(1000015500, 1000015500)], ?_⟩)
                  clear hj
                  try simp only [go_sem]
          · try simp only [go_sem]
            refine alt_i ?_ ?_
            · try simp only [go_sem]
              refine alt_i ?_ ?_
              · try simp only [go_sem]
                replace h := bindE h
                obtain ⟨v26003, hv26003, h⟩ := h
                refine call_g ⟨[], [(1001, 1000015000)], [], [(1501, 416048)], [], true⟩ (by kernel_rfl) (i_appendNumber_ok _ _ _ hv26003) (by kernel_rfl) ?_
                try simp only [go_sem]
                replace h := bindE h
                obtain ⟨v26008, hv26008, h⟩ := h
                have hq_ := app_some hv26008
                obtain ⟨hv26008a, hv26008b⟩ := hq_
                refine and_i (by refine ⟨?_, ?_⟩ <;> (try simp only [List.length_map, List.length_append, List.length_cons, List.length_nil] at *) <;> (try unfold maxLen) <;> omega) ?_
                try simp only [go_sem]
                refine row_i (List.map u8D v26008) (by rw [← hv26008b]; simp only [List.map_append, List.map_cons, List.map_nil, List.nil_append, List.append_nil, go_sem, slD]) ?_
                try simp only [go_sem]
                refine seq_go ?_
                try simp only [go_sem]
                have hj := posG_to rfl rfl (ih0 a1 v21000 v26008 (IntKind.i64.wrap (p15_1 + 1)) _ h)
                refine lp_to hj (.one ⟨_, .done _, [(1000015000, 416128), (1000015001, 1000015001)], [(1000015500, 1000015500)], ?_⟩)
                clear hj
                try simp only [go_sem]
              · try simp only [go_sem]
                refine alt_i ?_ ?_
                · try simp only [go_sem]
                  replace h := bindE h
                  obtain ⟨v26003, hv26003, h⟩ := h
                  refine call_g ⟨[], [(1001, 1000015000)], [], [(1501, 416048)], [], true⟩ (by kernel_rfl) (i_appendNumber_ok _ _ _ hv26003) (by kernel_rfl) ?_
                  try simp only [go_sem]
                  replace h := bindE h
                  obtain ⟨v26008, hv26008, h⟩ := h
                  have hq_ := app_some hv26008
                  obtain ⟨hv26008a, hv26008b⟩ := hq_
                  refine and_i (by refine ⟨?_, ?_⟩ <;> (try simp only [List.length_map, List.length_append, List.length_cons, List.length_nil] at *) <;> (try unfold maxLen) <;> omega) ?_
                  try simp only [go_sem]
                  refine row_i (List.map u8D v26008) (by rw [← hv26008b]; simp only [List.map_append, List.map_cons, List.map_nil, List.nil_append, List.append_nil, go_sem, slD]) ?_
                  try simp only [go_sem]
                  refine seq_go ?_
                  try simp only [go_sem]
                  have hj := posG_to rfl rfl (ih0 a1 v21000 v26008 (IntKind.i64.wrap (p15_1 + 1)) _ h)
                  refine lp_to hj (.one ⟨_, .done _, [(1000015000, 416128), (1000015001, 1000015001)], [(1000015500, 1000015500)], ?_⟩)
                  clear hj
                  try simp only [go_sem]
                · try simp only [go_sem]
                  replace h := bindE h
                  obtain ⟨v26003, hv26003, h⟩ := h
                  refine call_g ⟨[], [(1001, 1000015000)], [], [(1501, 416048)], [], true⟩ (by kernel_rfl) (i_appendNumber_ok _ _ _ hv26003) (by kernel_rfl) ?_
                  try simp only [go_sem]
                  replace h := bindE h
                  obtain ⟨v26008, hv26008, h⟩ := h
                  have hq_ := app_some hv26008
                  obtain ⟨hv26008a, hv26008b⟩ := hq_
                  refine and_i (by refine ⟨?_, ?_⟩ <;> (try simp only [List.length_map, List.length_append, List.length_cons, List.length_nil] at *) <;> (try unfold maxLen) <;> omega) ?_
                  try simp only [go_sem]
                  refine row_i (List.map u8D v26008) (by rw [← hv26008b]; simp only [List.map_append, List.map_cons, List.map_nil, List.nil_append, List.append_nil, go_sem, slD]) ?_
                  try simp only [go_sem]
                  refine seq_go ?_
                  try simp only [go_sem]
                  have hj := posG_to rfl rfl (ih0 a1 v21000 v26008 (IntKind.i64.wrap (p15_1 + 1)) _ h)
                  refine lp_to hj (.one ⟨_, .done _, [(1000015000, 416128), (1000015001, 1000015001)], [(1000015500, 1000015500)], ?_⟩)
                  clear hj
                  try simp only [go_sem]
            · try simp only [go_sem]
              refine alt_i ?_ ?_
              · try simp only [go_sem]
                refine alt_i ?_ ?_
                · try simp only [go_sem]
                  replace h := bindE h
                  obtain ⟨v26003, hv26003, h⟩ := h
                  refine call_g ⟨[], [(1001, 1000015000)], [], [(1501, 416048)], [], true⟩ (by kernel_rfl) (i_appendNumber_ok _ _ _ hv26003) (by kernel_rfl) ?_
                  try simp only [go_sem]
                  replace h := bindE h
                  obtain ⟨v26008, hv26008, h⟩ := h
                  have hq_ := app_some hv26008
                  obtain ⟨hv26008a, hv26008b⟩ := hq_
                  refine and_i (by refine ⟨?_, ?_⟩ <;> (try simp only [List.length_map, List.length_append, List.length_cons, List.length_nil] at *) <;> (try unfold maxLen) <;> omega) ?_
                  try simp only [go_sem]
                  refine row_i (List.map u8D v26008) (by rw [← hv26008b]; simp only [List.map_append, List.map_cons, List.map_nil, List.nil_append, List.append_nil, go_sem, slD]) ?_
                  try simp only [go_sem]
                  refine seq_go ?_
                  try simp only [go_sem]
                  have hj := posG_to rfl rfl (ih0 a1 v21000 v26008 (IntKind.i64.wrap (p15_1 + 1)) _ h)
                  refine lp_to hj (.one ⟨_, .done _, [(1000015000, 416128), (1000015001, 1000015001)], [(1000015500, 1000015500)], ?_⟩)
                  clear hj
                  try simp only [go_sem]
                · try simp only [go_sem]
                  replace h := bindE h
                  obtain ⟨v26003, hv26003, h⟩ := h
                  refine call_g ⟨[], [(1001, 1000015000)], [], [(1501, 416048)], [], true⟩ (by kernel_rfl) (i_appendNumber_ok _ _ _ hv26003) (by kernel_rfl) ?_
                  try simp only [go_sem]
                  replace h := bindE h
                  obtain ⟨v26008, hv26008, h⟩ := h
                  have hq_ := app_some hv26008
                  obtain ⟨hv26008a, hv26008b⟩ := hq_
                  refine and_i (by refine ⟨?_, ?_⟩ <;> (try simp only [List.length_map, List.length_append, List.length_cons, List.length_nil] at *) <;> (try unfold maxLen) <;> omega) ?_
                  try simp only [go_sem]
                  refine row_i (List.map u8D v26008) (by rw [← hv26008b]; simp only [List.map_append, List.map_cons, List.map_nil, List.nil_append, List.append_nil, go_sem, slD]) ?_
                  try simp only [go_sem]
                  refine seq_go ?_
                  try simp only [go_sem]
                  have hj := posG_to rfl rfl (ih0 a1 v21000 v26008 (IntKind.i64.wrap (p15_1 + 1)) _ h)
                  refine lp_to hj (.one ⟨_, .done _, [(1000015000, 416128), (1000015001, 1000015001)], [(1000015500, 1000015500)], ?_⟩)
                  clear hj
                  try simp only [go_sem]
              · try simp only [go_sem]
                replace h := bindE h
                obtain ⟨v26003, hv26003, h⟩ := h
                refine call_g ⟨[], [(1001, 1000015000)], [], [(1501, 416048)], [], true⟩ (by kernel_rfl) (i_appendNumber_ok _ _ _ hv26003) (by kernel_rfl) ?_
                try simp only [go_sem]
                replace h := bindE h
                obtain ⟨v26008, hv26008, h⟩ := h
                have hq_ := app_some hv26008
                obtain ⟨hv26008a, hv26008b⟩ := hq_
                refine and_i (by refine ⟨?_, ?_⟩ <;> (try simp only [List.length_map, List.length_append, List.length_cons, List.length_nil] at *) <;> (try unfold maxLen) <;> omega) ?_
                try simp only [go_sem]
                refine row_i (List.map u8D v26008) (by rw [← hv26008b]; simp only [List.map_append, List.map_cons, List.map_nil, List.nil_append, List.append_nil, go_sem, slD]) ?_
                try simp only [go_sem]
                refine seq_go ?_
                try simp only [go_sem]
                have hj := posG_to rfl rfl (ih0 a1 v21000 v26008 (IntKind.i64.wrap (p15_1 + 1)) _ h)
                refine lp_to hj (.one ⟨_, .done _, [(1000015000, 416128), (1000015001, 1000015001)], [(1000015500, 1000015500)], ?_⟩)
                clear hj
                try simp only [go_sem]
        · replace h := ifF (c := v25002) hb5 h
          try simp only [go_sem]
          refine seq_go ?_
          try simp only [go_sem]
          have hj := posG_to rfl rfl (ih0 a1 v21000 p15_0 (IntKind.i64.wrap (p15_1 + 1)) _ h)
          refine lp_to hj (.one ⟨_, .done _, [(1000015000, 1000015000), (1000015001, 1000015001)], [(1000015500, 1000015500)], ?_⟩)
          clear hj
          try simp only [go_sem]
      · replace h := ifF (c := (decide (p15_1 < ((List.length v21000 : Nat) : Int)))) hb4 h
        try simp only [go_sem]
        refine seq_go ?_
        try simp only [go_sem]
        replace h := Option.some.inj h
        obtain rfl := h
        refine ret_i (.done _) [(1501, 1000015000)] [] ?_
        simp only [go_sem]
theorem i_appendNet_l44_ok (n : Nat) : (∀ (a1 : Net) (v21000 : (List Port)) (p15_0 : List Int) (p15_1 : Int) (r : (List Int)), i_appendNet_l44 n a1 v21000 p15_0 p15_1 = some r → posG Try.prog Try.f50 [1, 1, 1, 0, 1, 0] (.own 1501) [(1501, ⟨List.map u8D r, some 1, 0⟩)] [] ⟨[(0, .own 1000015000), (3, .box 1000015500 0), (80, .own 1000015001), (81, .int .i64 ((List.length v21000 : Nat) : Int)), (82, .int .i64 p15_1)], [(1000015000, some ⟨List.map u8D p15_0, some 1, 0⟩), (1000015001, some ⟨List.map Port.ds v21000, some 2, 0⟩)], [(1000015500, some [.ro (List.map Agent.ds a1.agents)])]⟩) := (i_appendNet_l44_all n)

theorem i_appendNet_l37_all (n : Nat) : (∀ (a1 : Net) (v3002 : List Agent) (p8_0 : List Int) (p8_1 : Int) (r : (List Int)), i_appendNet_l37 n a1 v3002 p8_0 p8_1 = some r → posG Try.prog Try.f50 [1, 1, 0, 1, 0] (.own 1501) [(1501, ⟨List.map u8D r, some 1, 0⟩)] [] ⟨[(0, .own 1000008000), (3, .box 1000008500 0), (19, .ro (List.map Agent.ds v3002)), (20, .int .i64 ((List.length v3002 : Nat) : Int)), (21, .int .i64 p8_1)], [(1000008000, some ⟨List.map u8D p8_0, some 1, 0⟩)], [(1000008500, some [.ro (List.map Agent.ds a1.agents)])]⟩) ∧
    (∀ (a1 : Net) (p8_1 : Int) (v3002 : List Agent) (v5000 : Agent) (p9_0 : List Int) (r : (List Int)), i_appendNet_j38 n a1 p8_1 v3002 v5000 p9_0 = some r → posG Try.prog Try.f50 [1, 1, 0, 1, 0, 0, 1, 1, 0, 0, 1, 1, 1] (.own 1501) [(1501, ⟨List.map u8D r, some 1, 0⟩)] [] ⟨[(0, .own 1000009000), (3, .box 1000009500 0), (6, .box 1000009501 0), (19, .ro (List.map Agent.ds v3002)), (20, .int .i64 ((List.length v3002 : Nat) : Int)), (21, .int .i64 p8_1)], [(1000009000, some ⟨List.map u8D p9_0, some 1, 0⟩)], [(1000009500, some [.ro (List.map Agent.ds a1.agents)]), (1000009501, some [.int .i64 v5000.kind, .int .i64 v5000.level, .int .i64 v5000.value, .ro (List.map i64D v5000.data), .ro (List.map Port.ds v5000.ports)])]⟩) ∧
    (∀ (a1 : Net) (p8_1 : Int) (v3002 : List Agent) (v5000 : Agent) (p10_0 : List Int) (r : (List Int)), i_appendNet_j39 n a1 p8_1 v3002 v5000 p10_0 = some r → posG Try.prog Try.f50 [1, 1, 0, 1, 0, 0, 1, 1, 0, 0, 1, 1, 1, 1] (.own 1501) [(1501, ⟨List.map u8D r, some 1, 0⟩)] [] ⟨[(0, .own 1000010000), (3, .box 1000010500 0), (6, .box 1000010501 0), (19, .ro (List.map Agent.ds v3002)), (20, .int .i64 ((List.length v3002 : Nat) : Int)), (21, .int .i64 p8_1)], [(1000010000, some ⟨List.map u8D p10_0, some 1, 0⟩)], [(1000010500, some [.ro (List.map Agent.ds a1.agents)]), (1000010501, some [.int .i64 v5000.kind, .int .i64 v5000.level, .int .i64 v5000.value, .ro (List.map i64D v5000.data), .ro (List.map Port.ds v5000.ports)])]⟩) ∧
    (∀ (a1 : Net) (p8_1 : Int) (v3002 : List Agent) (v5000 : Agent) (p11_0 : List Int) (r : (List Int)), i_appendNet_j40 n a1 p8_1 v3002 v5000 p11_0 = some r → posG Try.prog Try.f50 [1, 1, 0, 1, 0, 0, 1, 1, 0, 0, 1, 1, 1, 1, 1] (.own 1501) [(1501, ⟨List.map u8D r, some 1, 0⟩)] [] ⟨[(0, .own 1000011000), (3, .box 1000011500 0), (6, .box 1000011501 0), (19, .ro (List.map Agent.ds v3002)), (20, .int .i64 ((List.length v3002 : Nat) : Int)), (21, .int .i64 p8_1)], [(1000011000, some ⟨List.map u8D p11_0, some 1, 0⟩)], [(1000011500, some [.ro (List.map Agent.ds a1.agents)]), (1000011501, some [.int .i64 v5000.kind, .int .i64 v5000.level, .int .i64 v5000.value, .ro (List.map i64D v5000.data), .ro (List.map Port.ds v5000.ports)])]⟩) ∧
    (∀ (a1 : Net) (p8_1 : Int) (v3002 : List Agent) (v5000 : Agent) (p17_0 : List Int) (p17_1 : Int) (r : (List Int)), i_appendNet_l46 n a1 p8_1 v3002 v5000 p17_0 p17_1 = some r → posG Try.prog Try.f50 [1, 1, 0, 1, 0, 0, 1, 1, 0, 0, 1, 1, 1, 1, 1, 0, 1, 0] (.own 1501) [(1501, ⟨List.map u8D r, some 1, 0⟩)] [] ⟨[(0, .own 1000017000), (3, .box 1000017500 0), (6, .box 1000017501 0), (19, .ro (List.map Agent.ds v3002)), (20, .int .i64 ((List.length v3002 : Nat) : Int)), (21, .int .i64 p8_1), (58, .ro (List.map i64D v5000.data)), (59, .int .i64 ((List.length v5000.data : Nat) : Int)), (60, .int .i64 p17_1)], [(1000017000, some ⟨List.map u8D p17_0, some 1, 0⟩)], [(1000017500, some [.ro (List.map Agent.ds a1.agents)]), (1000017501, some [.int .i64 v5000.kind, .int .i64 v5000.level, .int .i64 v5000.value, .ro (List.map i64D v5000.data), .ro (List.map Port.ds v5000.ports)])]⟩) := by
  induction n with
  | zero => exact ⟨(fun _ _ _ _ _ h => by rw [i_appendNet_l37] at h; cases h), (fun _ _ _ _ _ _ h => by rw [i_appendNet_j38] at h; cases h), (fun _ _ _ _ _ _ h => by rw [i_appendNet_j39] at h; cases h), (fun _ _ _ _ _ _ h => by rw [i_appendNet_j40] at h; cases h), (fun _ _ _ _ _ _ _ h => by rw [i_appendNet_l46] at h; cases h)⟩
  | succ n ih =>
    obtain ⟨ih0, ih1, ih2, ih3, ih4⟩ := ih
    refine ⟨?_, ?_, ?_, ?_, ?_⟩
    · intro a1 v3002 p8_0 p8_1 r h
      rw [i_appendNet_l37] at h
      refine posG_of rfl rfl ?_
      try simp only [go_sem]
      refine loop_i ?_
      try simp only [go_sem]
      refine cond_i (fun hb1 => ?_) (fun hb1 => ?_)
      · replace h := ifT (c := (decide (p8_1 < ((List.length v3002 : Nat) : Int)))) hb1 h
        try simp only [go_sem]
        refine seq_go ?_
        try simp only [go_sem]
        replace h := bindE h
        obtain ⟨v5000, hv5000, h⟩ := h
        refine idx_m hv5000 (Agent.ds_len _) ?_
        try simp only [go_sem]
        replace h := bindE h
        obtain ⟨v6005, hv6005, h⟩ := h
        have hq_ := app_some hv6005
        obtain ⟨hv6005a, hv6005b⟩ := hq_
        refine and_i (by refine ⟨?_, ?_⟩ <;> (try simp only [List.length_map, List.length_append, List.length_cons, List.length_nil] at *) <;> (try unfold maxLen) <;> omega) ?_
        try simp only [go_sem]
        refine row_i (List.map u8D v6005) (by rw [← hv6005b]; simp only [List.map_append, List.map_cons, List.map_nil, List.nil_append, List.append_nil, go_sem, slD]) ?_
        try simp only [go_sem]
        replace h := bindE h
        obtain ⟨v7002, hv7002, h⟩ := h
        refine call_i (i_HasLevel_ok _ _ hv7002) ?_
        try simp only [go_sem]
        refine cond_i (fun hb2 => ?_) (fun hb2 => ?_)
        · replace h := ifT (c := v7002) hb2 h
          try simp only [go_sem]
          replace h := bindE h
          obtain ⟨v8005, hv8005, h⟩ := h
          have hq_ := app_some hv8005
          obtain ⟨hv8005a, hv8005b⟩ := hq_
          refine and_i (by refine ⟨?_, ?_⟩ <;> (try simp only [List.length_map, List.length_append, List.length_cons, List.length_nil] at *) <;> (try unfold maxLen) <;> omega) ?_
          try simp only [go_sem]
          refine row_i (List.map u8D v8005) (by rw [← hv8005b]; simp only [List.map_append, List.map_cons, List.map_nil, List.nil_append, List.append_nil, go_sem, slD]) ?_
          try simp only [go_sem]
          have hj := posG_to rfl rfl (ih1 a1 p8_1 v3002 v5000 v8005 _ h)
          refine seq_to hj (.one ⟨_, .done _, [(1000009000, 128080)], [(1000009500, 1000008500), (1000009501, 5002)], ?_⟩)
          clear hj
          try simp only [go_sem]
        · replace h := ifF (c := v7002) hb2 h
          try simp only [go_sem]
          have hj := posG_to rfl rfl (ih1 a1 p8_1 v3002 v5000 v6005 _ h)
          refine seq_to hj (.one ⟨_, .done _, [(1000009000, 96080)], [(1000009500, 1000008500), (1000009501, 5002)], ?_⟩)
          clear hj
          try simp only [go_sem]
      · replace h := ifF (c := (decide (p8_1 < ((List.length v3002 : Nat) : Int)))) hb1 h
        try simp only [go_sem]
        refine seq_go ?_
        try simp only [go_sem]
        replace h := bindE h
        obtain ⟨v21000, hv21000, h⟩ := h
        refine call_i (i_Net_ports_ok _ _ hv21000) ?_
        try simp only [go_sem]
        have hj := posG_to rfl rfl (i_appendNet_l44_ok fuel a1 v21000 p8_0 0 _ h)
        refine loop_to hj (.one ⟨_, .done _, [(1000015000, 1000008000), (1000015001, 336000)], [(1000015500, 1000008500)], ?_⟩)
        clear hj
        try simp only [go_sem]
    · intro a1 p8_1 v3002 v5000 p9_0 r h
      rw [i_appendNet_j38] at h
      refine posG_of rfl rfl ?_
      try simp only [go_sem]
      replace h := bindE h
      obtain ⟨v9002, hv9002, h⟩ := h
      refine call_i (i_hasValue_ok _ _ hv9002) ?_
      try simp only [go_sem]
      refine cond_i (fun hb3 => ?_) (fun hb3 => ?_)
      · replace h := ifT (c := v9002) hb3 h
        try simp only [go_sem]
        replace h := bindE h
        obtain ⟨v10003, hv10003, h⟩ := h
        refine call_g ⟨[], [(1001, 1000009000)], [], [(1501, 160048)], [], true⟩ (by kernel_rfl) (i_appendNumber_ok _ _ _ hv10003) (by kernel_rfl) ?_
        try simp only [go_sem]
        have hj := posG_to rfl rfl (ih2 a1 p8_1 v3002 v5000 v10003 _ h)
        refine seq_to hj (.one ⟨_, .done _, [(1000010000, 160048)], [(1000010500, 1000009500), (1000010501, 1000009501)], ?_⟩)
        clear hj
        try simp only [go_sem]
      · replace h := ifF (c := v9002) hb3 h
        try simp only [go_sem]
        have hj := posG_to rfl rfl (ih2 a1 p8_1 v3002 v5000 p9_0 _ h)
        refine seq_to hj (.one ⟨_, .done _, [(1000010000, 1000009000)], [(1000010500, 1000009500), (1000010501, 1000009501)], ?_⟩)
        clear hj
        try simp only [go_sem]
    · intro a1 p8_1 v3002 v5000 p10_0 r h
      rw [i_appendNet_j39] at h
      refine posG_of rfl rfl ?_
      try simp only [go_sem]
      refine cond_i (fun hb6 => ?_) (fun hb6 => ?_)
      · replace h := ifT (c := (decide (v5000.kind = 10))) hb6 h
        try simp only [go_sem]
        replace h := bindE h
        obtain ⟨v12006, hv12006, h⟩ := h
        have hq_ := app_some hv12006
        obtain ⟨hv12006a, hv12006b⟩ := hq_
        refine and_i (by refine ⟨?_, ?_⟩ <;> (try simp only [List.length_map, List.length_append, List.length_cons, List.length_nil] at *) <;> (try unfold maxLen) <;> omega) ?_
        try simp only [go_sem]
        refine row_i (List.map u8D v12006) (by rw [← hv12006b]; simp only [List.map_append, List.map_cons, List.map_nil, List.nil_append, List.append_nil, go_sem, slD]) ?_
        try simp only [go_sem]
        have hj := posG_to rfl rfl (ih3 a1 p8_1 v3002 v5000 v12006 _ h)
        refine seq_to hj (.one ⟨_, .done _, [(1000011000, 192096)], [(1000011500, 1000010500), (1000011501, 1000010501)], ?_⟩)
        clear hj
        try simp only [go_sem]
      · replace h := ifF (c := (decide (v5000.kind = 10))) hb6 h
        try simp only [go_sem]
        have hj := posG_to rfl rfl (ih3 a1 p8_1 v3002 v5000 p10_0 _ h)
        refine seq_to hj (.one ⟨_, .done _, [(1000011000, 1000010000)], [(1000011500, 1000010500), (1000011501, 1000010501)], ?_⟩)
        clear hj
        try simp only [go_sem]
    · intro a1 p8_1 v3002 v5000 p11_0 r h
      rw [i_appendNet_j40] at h
      refine posG_of rfl rfl ?_
      try simp only [go_sem]
      have hj := posG_to rfl rfl (ih4 a1 p8_1 v3002 v5000 p11_0 0 _ h)
      refine loop_to hj (.one ⟨_, .done _, [(1000017000, 1000011000)], [(1000017500, 1000011500), (1000017501, 1000011501)], ?_⟩)
      clear hj
      try simp only [go_sem]
    · intro a1 p8_1 v3002 v5000 p17_0 p17_1 r h
      rw [i_appendNet_l46] at h
      refine posG_of rfl rfl ?_
      try simp only [go_sem]
      refine loop_i ?_
      try simp only [go_sem]
      refine cond_i (fun hb7 => ?_) (fun hb7 => ?_)
      · replace h := ifT (c := (decide (p17_1 < ((List.length v5000.data : Nat) : Int)))) hb7 h
        try simp only [go_sem]
        refine seq_go ?_
        try simp only [go_sem]
        replace h := bindE h
        obtain ⟨v15000, hv15000, h⟩ := h
        refine idx_m hv15000 rfl ?_
        try simp only [go_sem]
        replace h := bindE h
        obtain ⟨v16002, hv16002, h⟩ := h
        refine call_g ⟨[], [(1001, 1000017000)], [], [(1501, 256032)], [], true⟩ (by kernel_rfl) (i_appendNumber_ok _ _ _ hv16002) (by kernel_rfl) ?_
        try simp only [go_sem]
        refine seq_go ?_
        try simp only [go_sem]
        have hj := posG_to rfl rfl (ih4 a1 p8_1 v3002 v5000 v16002 (IntKind.i64.wrap (p17_1 + 1)) _ h)
        refine lp_to hj (.one ⟨_, .done _, [(1000017000, 256032)], [(1000017500, 1000017500), (1000017501, 1000017501)], ?_⟩)
        clear hj
        try simp only [go_sem]
      · replace h := ifF (c := (decide (p17_1 < ((List.length v5000.data : Nat) : Int)))) hb7 h
        try simp only [go_sem]
        refine seq_go ?_
        try simp only [go_sem]
        refine cond_i (fun hb8 => ?_) (fun hb8 => ?_)
        · replace h := ifT (c := (decide (v5000.kind = 9))) hb8 h
          try simp only [go_sem]
          replace h := bindE h
          obtain ⟨v19007, hv19007, h⟩ := h
          have hq_ := app_some hv19007
          obtain ⟨hv19007a, hv19007b⟩ := hq_
          refine and_i (by refine ⟨?_, ?_⟩ <;> (try simp only [List.length_map, List.length_append, List.length_cons, List.length_nil] at *) <;> (try unfold maxLen) <;> omega) ?_
          try simp only [go_sem]
          refine row_i (List.map u8D v19007) (by rw [← hv19007b]; simp only [List.map_append, List.map_cons, List.map_nil, List.nil_append, List.append_nil, go_sem, slD]) ?_
          try simp only [go_sem]
          refine seq_go ?_
          try simp only [go_sem]
          have hj := posG_to rfl rfl (ih0 a1 v3002 v19007 (IntKind.i64.wrap (p8_1 + 1)) _ h)
          refine lp_to hj (.one ⟨_, .done _, [(1000008000, 304112)], [(1000008500, 1000017500)], ?_⟩)
          clear hj
          try simp only [go_sem]
        · replace h := ifF (c := (decide (v5000.kind = 9))) hb8 h
          try simp only [go_sem]
          refine seq_go ?_
          try simp only [go_sem]
          have hj := posG_to rfl rfl (ih0 a1 v3002 p17_0 (IntKind.i64.wrap (p8_1 + 1)) _ h)
          refine lp_to hj (.one ⟨_, .done _, [(1000008000, 1000017000)], [(1000008500, 1000017500)], ?_⟩)
          clear hj
          try simp only [go_sem]
theorem i_appendNet_l37_ok (n : Nat) : (∀ (a1 : Net) (v3002 : List Agent) (p8_0 : List Int) (p8_1 : Int) (r : (List Int)), i_appendNet_l37 n a1 v3002 p8_0 p8_1 = some r → posG Try.prog Try.f50 [1, 1, 0, 1, 0] (.own 1501) [(1501, ⟨List.map u8D r, some 1, 0⟩)] [] ⟨[(0, .own 1000008000), (3, .box 1000008500 0), (19, .ro (List.map Agent.ds v3002)), (20, .int .i64 ((List.length v3002 : Nat) : Int)), (21, .int .i64 p8_1)], [(1000008000, some ⟨List.map u8D p8_0, some 1, 0⟩)], [(1000008500, some [.ro (List.map Agent.ds a1.agents)])]⟩) := (i_appendNet_l37_all n).1
theorem i_appendNet_j38_ok (n : Nat) : (∀ (a1 : Net) (p8_1 : Int) (v3002 : List Agent) (v5000 : Agent) (p9_0 : List Int) (r : (List Int)), i_appendNet_j38 n a1 p8_1 v3002 v5000 p9_0 = some r → posG Try.prog Try.f50 [1, 1, 0, 1, 0, 0, 1, 1, 0, 0, 1, 1, 1] (.own 1501) [(1501, ⟨List.map u8D r, some 1, 0⟩)] [] ⟨[(0, .own 1000009000), (3, .box 1000009500 0), (6, .box 1000009501 0), (19, .ro (List.map Agent.ds v3002)), (20, .int .i64 ((List.length v3002 : Nat) : Int)), (21, .int .i64 p8_1)], [(1000009000, some ⟨List.map u8D p9_0, some 1, 0⟩)], [(1000009500, some [.ro (List.map Agent.ds a1.agents)]), (1000009501, some [.int .i64 v5000.kind, .int .i64 v5000.level, .int .i64 v5000.value, .ro (List.map i64D v5000.data), .ro (List.map Port.ds v5000.ports)])]⟩) := (i_appendNet_l37_all n).2.1
theorem i_appendNet_j39_ok (n : Nat) : (∀ (a1 : Net) (p8_1 : Int) (v3002 : List Agent) (v5000 : Agent) (p10_0 : List Int) (r : (List Int)), i_appendNet_j39 n a1 p8_1 v3002 v5000 p10_0 = some r → posG Try.prog Try.f50 [1, 1, 0, 1, 0, 0, 1, 1, 0, 0, 1, 1, 1, 1] (.own 1501) [(1501, ⟨List.map u8D r, some 1, 0⟩)] [] ⟨[(0, .own 1000010000), (3, .box 1000010500 0), (6, .box 1000010501 0), (19, .ro (List.map Agent.ds v3002)), (20, .int .i64 ((List.length v3002 : Nat) : Int)), (21, .int .i64 p8_1)], [(1000010000, some ⟨List.map u8D p10_0, some 1, 0⟩)], [(1000010500, some [.ro (List.map Agent.ds a1.agents)]), (1000010501, some [.int .i64 v5000.kind, .int .i64 v5000.level, .int .i64 v5000.value, .ro (List.map i64D v5000.data), .ro (List.map Port.ds v5000.ports)])]⟩) := (i_appendNet_l37_all n).2.2.1
theorem i_appendNet_j40_ok (n : Nat) : (∀ (a1 : Net) (p8_1 : Int) (v3002 : List Agent) (v5000 : Agent) (p11_0 : List Int) (r : (List Int)), i_appendNet_j40 n a1 p8_1 v3002 v5000 p11_0 = some r → posG Try.prog Try.f50 [1, 1, 0, 1, 0, 0, 1, 1, 0, 0, 1, 1, 1, 1, 1] (.own 1501) [(1501, ⟨List.map u8D r, some 1, 0⟩)] [] ⟨[(0, .own 1000011000), (3, .box 1000011500 0), (6, .box 1000011501 0), (19, .ro (List.map Agent.ds v3002)), (20, .int .i64 ((List.length v3002 : Nat) : Int)), (21, .int .i64 p8_1)], [(1000011000, some ⟨List.map u8D p11_0, some 1, 0⟩)], [(1000011500, some [.ro (List.map Agent.ds a1.agents)]), (1000011501, some [.int .i64 v5000.kind, .int .i64 v5000.level, .int .i64 v5000.value, .ro (List.map i64D v5000.data), .ro (List.map Port.ds v5000.ports)])]⟩) := (i_appendNet_l37_all n).2.2.2.1
theorem i_appendNet_l46_ok (n : Nat) : (∀ (a1 : Net) (p8_1 : Int) (v3002 : List Agent) (v5000 : Agent) (p17_0 : List Int) (p17_1 : Int) (r : (List Int)), i_appendNet_l46 n a1 p8_1 v3002 v5000 p17_0 p17_1 = some r → posG Try.prog Try.f50 [1, 1, 0, 1, 0, 0, 1, 1, 0, 0, 1, 1, 1, 1, 1, 0, 1, 0] (.own 1501) [(1501, ⟨List.map u8D r, some 1, 0⟩)] [] ⟨[(0, .own 1000017000), (3, .box 1000017500 0), (6, .box 1000017501 0), (19, .ro (List.map Agent.ds v3002)), (20, .int .i64 ((List.length v3002 : Nat) : Int)), (21, .int .i64 p8_1), (58, .ro (List.map i64D v5000.data)), (59, .int .i64 ((List.length v5000.data : Nat) : Int)), (60, .int .i64 p17_1)], [(1000017000, some ⟨List.map u8D p17_0, some 1, 0⟩)], [(1000017500, some [.ro (List.map Agent.ds a1.agents)]), (1000017501, some [.int .i64 v5000.kind, .int .i64 v5000.level, .int .i64 v5000.value, .ro (List.map i64D v5000.data), .ro (List.map Port.ds v5000.ports)])]⟩) := (i_appendNet_l37_all n).2.2.2.2

theorem i_appendNet_ok (a0 : List Int) (a1 : Net) (r : (List Int)) (h : i_appendNet a0 a1 = some r) : AG Try.prog 50 [.own 1001, .agg [.ro (List.map Agent.ds a1.agents)]] [(1001, ⟨List.map u8D a0, some 1, 0⟩)] [] (.own 1501) [(1501, ⟨List.map u8D r, some 1, 0⟩)] [] := by
  unfold i_appendNet at h
  refine ag_fn mixed Try.func50 rfl rfl rfl (by kernel_rfl) (by kernel_rfl) ?_
  try simp only [go_sem]
  replace h := bindE h
  obtain ⟨v2004, hv2004, h⟩ := h
  refine call_g ⟨[], [(1001, 1001)], [], [(1501, 32064)], [], true⟩ (by kernel_rfl) (i_appendNumber_ok _ _ _ hv2004) (by kernel_rfl) ?_
  try simp only [go_sem]
  replace h := bindE h
  obtain ⟨v3002, hv3002, h⟩ := h
  refine and_i (len_rows_of (by intro x; exact (Agent.ds_len _)) _) ?_
  try simp only [go_sem]
  refine opt_i (cut_map hv3002) ?_
  try simp only [go_sem]
  have hj := posG_to rfl rfl (i_appendNet_l37_ok fuel a1 v3002 v2004 0 _ h)
  refine loop_to hj (.one ⟨_, .done _, [(1000008000, 32064)], [(1000008500, 1000)], ?_⟩)
  clear hj
  try simp only [go_sem]
theorem i_EncodeNet_ok (a0 : Net) (r : (List Int) × Int) (h : i_EncodeNet a0 = some r) : AC Try.prog 11 [.agg (Net.avs a0)] (.tup [.ow (some 1) (List.map u8D r.1), .int .i64 r.2]) := by
  unfold i_EncodeNet at h
  refine ac_fn mixed Try.func11 rfl rfl rfl (by kernel_rfl) (by kernel_rfl) ?_
  try simp only [go_sem]
  replace h := bindE h
  obtain ⟨v2001, hv2001, h⟩ := h
  refine call_i (i_ValidNet_ok _ _ hv2001) ?_
  try simp only [go_sem]
  refine cond_i (fun hb1 => ?_) (fun hb1 => ?_)
  · replace h := ifT (c := (!v2001)) hb1 h
    try simp only [go_sem]
    replace h := Option.some.inj h
    obtain rfl := h
    simp only [go_sem]
  · replace h := ifF (c := (!v2001)) hb1 h
    try simp only [go_sem]
    refine seq_go ?_
    try simp only [go_sem]
    replace h := bindE h
    obtain ⟨v4001, hv4001, h⟩ := h
    refine call_g ⟨[(3000064016, .nils, some 1)], [(1001, 3000064016)], [], [(1501, 64016)], [], true⟩ (by kernel_rfl) (i_appendNet_ok _ _ _ hv4001) (by kernel_rfl) ?_
    try simp only [go_sem]
    replace h := bindE h
    obtain ⟨v4002, hv4002, h⟩ := h
    refine call_i (i_framed_ok _ _ _ hv4002) ?_
    try simp only [go_sem]
    replace h := Option.some.inj h
    obtain rfl := h
    simp only [go_sem]
theorem l_FnExactEncodeNet_j3_ok (v18002 : Int × (List Int)) (p2_0 : Bool) (r : Bool) (h : l_FnExactEncodeNet_j3 v18002 p2_0 = some r) : posF Try.prog Try.f3 [1, 1, 1, 1, 1, 1, 1, 1, 1, 1, 1, 1, 1, 1, 1, 1, 1, 1, 1, 0, 1] (.bool r) ⟨[(7, .own 1000002000), (10, .int .i64 v18002.1), (87, .bool p2_0)], [(1000002000, some ⟨List.map u8D v18002.2, some 1, 0⟩)], []⟩ := by
  unfold l_FnExactEncodeNet_j3 at h
  refine posF_of rfl rfl ?_
  try simp only [go_sem]
  refine cond_i (fun hb11 => ?_) (fun hb11 => ?_)
  · replace h := ifT (c := p2_0) hb11 h
    try simp only [go_sem]
    replace h := Option.some.inj h
    obtain rfl := h
    simp only [go_sem]
  · replace h := ifF (c := p2_0) hb11 h
    try simp only [go_sem]
    refine seq_go ?_
    try simp only [go_sem]
    replace h := bindE h
    obtain ⟨v29002, hv29002, h⟩ := h
    refine call_i (l_heldByteS_ok _ _ _ hv29002) ?_
    try simp only [go_sem]
    refine cond_i (fun hb12 => ?_) (fun hb12 => ?_)
    · replace h := ifT (c := (decide (v29002 < 0))) hb12 h
      try simp only [go_sem]
      replace h := Option.some.inj h
      obtain rfl := h
      simp only [go_sem]
    · replace h := ifF (c := (decide (v29002 < 0))) hb12 h
      try simp only [go_sem]
      refine seq_go ?_
      try simp only [go_sem]
      refine cond_i (fun hb13 => ?_) (fun hb13 => ?_)
      · replace h := ifT (c := (!decide (v29002 = v18002.1))) hb13 h
        try simp only [go_sem]
        replace h := Option.some.inj h
        obtain rfl := h
        simp only [go_sem]
      · replace h := ifF (c := (!decide (v29002 = v18002.1))) hb13 h
        try simp only [go_sem]
        refine seq_go ?_
        try simp only [go_sem]
        replace h := Option.some.inj h
        obtain rfl := h
        simp only [go_sem]
theorem l_FnExactEncodeNet_j2_ok (a0 : Net) (v6002 : (List Int) × Int) (v8001 : (List Int) × Int) (p1_0 : Bool) (r : Bool) (h : l_FnExactEncodeNet_j2 a0 v6002 v8001 p1_0 = some r) : posF Try.prog Try.f3 [1, 1, 1, 1, 1, 1, 1, 1, 1, 1, 1, 0, 1] (.bool r) ⟨[(1, .box 1000001500 0), (4, .own 1000001000), (5, .int .i64 v6002.2), (7, .own 1000001001), (61, .bool p1_0)], [(1000001000, some ⟨List.map u8D v6002.1, some 1, 0⟩), (1000001001, some ⟨List.map u8D v8001.1, some 1, 0⟩)], [(1000001500, some [.ro (List.map Agent.ds a0.agents)])]⟩ := by
  unfold l_FnExactEncodeNet_j2 at h
  refine posF_of rfl rfl ?_
  try simp only [go_sem]
  refine cond_i (fun hb7 => ?_) (fun hb7 => ?_)
  · replace h := ifT (c := p1_0) hb7 h
    try simp only [go_sem]
    replace h := Option.some.inj h
    obtain rfl := h
    simp only [go_sem]
  · replace h := ifF (c := p1_0) hb7 h
    try simp only [go_sem]
    refine seq_go ?_
    try simp only [go_sem]
    replace h := bindE h
    obtain ⟨v18002, hv18002, h⟩ := h
    refine call_g ⟨[], [(1, 1000001001)], [], [], [], true⟩ (by kernel_rfl) (l_markByteS_ok _ _ (some 1) _ hv18002) (by kernel_rfl) ?_
    try simp only [go_sem]
    replace h := bindE h
    obtain ⟨v20002, hv20002, h⟩ := h
    refine call_i (l_heldByteS_ok _ _ _ hv20002) ?_
    try simp only [go_sem]
    refine cond_i (fun hb8 => ?_) (fun hb8 => ?_)
    · replace h := ifT (c := (decide (v20002 < 0))) hb8 h
      try simp only [go_sem]
      replace h := Option.some.inj h
      obtain rfl := h
      simp only [go_sem]
    · replace h := ifF (c := (decide (v20002 < 0))) hb8 h
      try simp only [go_sem]
      refine seq_go ?_
      try simp only [go_sem]
      refine cond_i (fun hb9 => ?_) (fun hb9 => ?_)
      · replace h := ifT (c := (!decide (v20002 = v18002.1))) hb9 h
        try simp only [go_sem]
        replace h := Option.some.inj h
        obtain rfl := h
        simp only [go_sem]
      · replace h := ifF (c := (!decide (v20002 = v18002.1))) hb9 h
        try simp only [go_sem]
        refine seq_go ?_
        try simp only [go_sem]
        replace h := bindE h
        obtain ⟨v25001, hv25001, h⟩ := h
        refine call_i (l_toNet_ok _ _ hv25001) ?_
        try simp only [go_sem]
        replace h := bindE h
        obtain ⟨v25002, hv25002, h⟩ := h
        refine call_i (i_EncodeNet_ok _ _ hv25002) ?_
        try simp only [go_sem]
        replace h := bindE h
        obtain ⟨v26002, hv26002, h⟩ := h
        refine call_i (l_eqByteS_ok _ _ _ hv26002) ?_
        try simp only [go_sem]
        refine cond_i (fun hb10 => ?_) (fun hb10 => ?_)
        · replace h := ifT (c := (!v26002)) hb10 h
          try simp only [go_sem]
          have hj := posF_to rfl rfl (l_FnExactEncodeNet_j3_ok v18002 true _ h)
          refine seq_to hj (.one ⟨_, .done _, [(1000002000, 1000001001)], [], ?_⟩)
          clear hj
          try simp only [go_sem]
        · replace h := ifF (c := (!v26002)) hb10 h
          try simp only [go_sem]
          have hj := posF_to rfl rfl (l_FnExactEncodeNet_j3_ok v18002 (!decide (v25002.2 = v6002.2)) _ h)
          refine seq_to hj (.one ⟨_, .done _, [(1000002000, 1000001001)], [], ?_⟩)
          clear hj
          try simp only [go_sem]
theorem l_FnExactEncodeNet_j1_ok (a0 : Net) (v6002 : (List Int) × Int) (v7001 : Net) (v8001 : (List Int) × Int) (p0_0 : Bool) (r : Bool) (h : l_FnExactEncodeNet_j1 a0 v6002 v7001 v8001 p0_0 = some r) : posF Try.prog Try.f3 [1, 1, 1, 1, 1, 1, 1, 0, 1] (.bool r) ⟨[(1, .box 1000000500 0), (4, .own 1000000000), (5, .int .i64 v6002.2), (6, .box 1000000501 0), (7, .own 1000000002), (8, .int .i64 v8001.2), (40, .bool p0_0)], [(1000000000, some ⟨List.map u8D v6002.1, some 1, 0⟩), (1000000001, some ⟨List.map Agent.ds v7001.agents, some 5, 0⟩), (1000000002, some ⟨List.map u8D v8001.1, some 1, 0⟩)], [(1000000500, some [.ro (List.map Agent.ds a0.agents)]), (1000000501, some [.own 1000000001])]⟩ := by
  unfold l_FnExactEncodeNet_j1 at h
  refine posF_of rfl rfl ?_
  try simp only [go_sem]
  refine cond_i (fun hb3 => ?_) (fun hb3 => ?_)
  · replace h := ifT (c := p0_0) hb3 h
    try simp only [go_sem]
    replace h := Option.some.inj h
    obtain rfl := h
    simp only [go_sem]
  · replace h := ifF (c := p0_0) hb3 h
    try simp only [go_sem]
    refine seq_go ?_
    try simp only [go_sem]
    refine draw_i [] .fin (by kernel_rfl) ?_
    try simp only [go_sem]
    replace h := bindE h
    obtain ⟨v11002, hv11002, h⟩ := h
    refine call_i (l_toNet_ok _ _ hv11002) ?_
    try simp only [go_sem]
    replace h := bindE h
    obtain ⟨v11003, hv11003, h⟩ := h
    refine call_i (l_eqNet_ok _ _ _ hv11003) ?_
    try simp only [go_sem]
    refine seq_go ?_
    try simp only [go_sem]
    refine cond_i (fun hb4 => ?_) (fun hb4 => ?_)
    · replace h := ifT (c := (!v11003)) hb4 h
      try simp only [go_sem]
      replace h := Option.some.inj h
      obtain rfl := h
      simp only [go_sem]
    · replace h := ifF (c := (!v11003)) hb4 h
      try simp only [go_sem]
      refine seq_go ?_
      try simp only [go_sem]
      replace h := bindE h
      obtain ⟨v14002, hv14002, h⟩ := h
      refine call_g ⟨[], [(1, 1000000001)], [], [], [], true⟩ (by kernel_rfl) (l_markNet_ok _ _ (some 5) _ hv14002) (by kernel_rfl) ?_
      try simp only [go_sem]
      refine cond_i (fun hb5 => ?_) (fun hb5 => ?_)
      · replace h := ifT (c := (decide (v14002.1 < 0))) hb5 h
        try simp only [go_sem]
        have hj := posF_to rfl rfl (l_FnExactEncodeNet_j2_ok a0 v6002 v8001 true _ h)
        refine seq_to hj (.one ⟨_, .done _, [(1000001000, 1000000000), (1000001001, 1000000002)], [(1000001500, 1000000500)], ?_⟩)
        clear hj
        try simp only [go_sem]
      · replace h := ifF (c := (decide (v14002.1 < 0))) hb5 h
        try simp only [go_sem]
        replace h := bindE h
        obtain ⟨v15005, hv15005, h⟩ := h
        refine call_i (l_eqByteS_ok _ _ _ hv15005) ?_
        try simp only [go_sem]
        refine cond_i (fun hb6 => ?_) (fun hb6 => ?_)
        · replace h := ifT (c := (!v15005)) hb6 h
          try simp only [go_sem]
          have hj := posF_to rfl rfl (l_FnExactEncodeNet_j2_ok a0 v6002 v8001 true _ h)
          refine seq_to hj (.one ⟨_, .done _, [(1000001000, 1000000000), (1000001001, 1000000002)], [(1000001500, 1000000500)], ?_⟩)
          clear hj
          try simp only [go_sem]
        · replace h := ifF (c := (!v15005)) hb6 h
          try simp only [go_sem]
          have hj := posF_to rfl rfl (l_FnExactEncodeNet_j2_ok a0 v6002 v8001 (!decide (v8001.2 = v6002.2)) _ h)
          refine seq_to hj (.one ⟨_, .done _, [(1000001000, 1000000000), (1000001001, 1000000002)], [(1000001500, 1000000500)], ?_⟩)
          clear hj
          try simp only [go_sem]
theorem l_FnExactEncodeNet_ok (a0 : Net) (r : Bool) (h : l_FnExactEncodeNet a0 = some r) : AC Try.prog 3 [.agg (Net.avs a0)] (.bool r) := by
  unfold l_FnExactEncodeNet at h
  refine ac_fn mixed Try.func3 rfl rfl rfl (by kernel_rfl) (by kernel_rfl) ?_
  try simp only [go_sem]
  replace h := bindE h
  obtain ⟨v3002, hv3002, h⟩ := h
  refine call_i (l_szNet_ok _ _ _ hv3002) ?_
  try simp only [go_sem]
  refine cond_i (fun hb1 => ?_) (fun hb1 => ?_)
  · replace h := ifT (c := (decide (v3002 < 0))) hb1 h
    try simp only [go_sem]
    replace h := Option.some.inj h
    obtain rfl := h
    simp only [go_sem]
  · replace h := ifF (c := (decide (v3002 < 0))) hb1 h
    try simp only [go_sem]
    refine seq_go ?_
    try simp only [go_sem]
    replace h := bindE h
    obtain ⟨v6001, hv6001, h⟩ := h
    refine call_i (l_toNet_ok _ _ hv6001) ?_
    try simp only [go_sem]
    replace h := bindE h
    obtain ⟨v6002, hv6002, h⟩ := h
    refine call_i (s_EncodeNet_ok _ _ hv6002) ?_
    try simp only [go_sem]
    replace h := bindE h
    obtain ⟨v7001, hv7001, h⟩ := h
    refine call_i (l_toNet_ok _ _ hv7001) ?_
    try simp only [go_sem]
    replace h := bindE h
    obtain ⟨v8001, hv8001, h⟩ := h
    refine call_i (i_EncodeNet_ok _ _ hv8001) ?_
    try simp only [go_sem]
    replace h := bindE h
    obtain ⟨v9002, hv9002, h⟩ := h
    refine call_i (l_eqByteS_ok _ _ _ hv9002) ?_
    try simp only [go_sem]
    refine cond_i (fun hb2 => ?_) (fun hb2 => ?_)
    · replace h := ifT (c := (!v9002)) hb2 h
      try simp only [go_sem]
      have hj := posF_to rfl rfl (l_FnExactEncodeNet_j1_ok a0 v6002 v7001 v8001 true _ h)
      refine seq_to hj (.one ⟨_, .done _, [(1000000000, 96032), (1000000001, 112016), (1000000002, 128016)], [(1000000500, 1000), (1000000501, 7002)], ?_⟩)
      clear hj
      try simp only [go_sem]
    · replace h := ifF (c := (!v9002)) hb2 h
      try simp only [go_sem]
      have hj := posF_to rfl rfl (l_FnExactEncodeNet_j1_ok a0 v6002 v7001 v8001 (!decide (v8001.2 = v6002.2)) _ h)
      refine seq_to hj (.one ⟨_, .done _, [(1000000000, 96032), (1000000001, 112016), (1000000002, 128016)], [(1000000500, 1000), (1000000501, 7002)], ?_⟩)
      clear hj
      try simp only [go_sem]
end Go.Proofs.Ytocpkbclcnjejaa.Ab
