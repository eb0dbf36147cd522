/-
  The functions do what their models say. Printed by wip/ab/gen.py.
-/
import Derived.Test.YtlmanchbpommaaaDoorModW
import Derived.Test.YtlmanchbpommaaaDoorTi2
import Derived.Test.YtlmanchbpommaaaDoorWlkF
namespace Go.Proofs.YtlmanchbpommaaaDoor.Ab
set_option linter.unusedVariables false
set_option linter.unusedSimpArgs false
set_option maxRecDepth 20000
set_option maxHeartbeats 4000000
open Go.RowKit

theorem l_szRow_ok (a0 : Row) (a1 : Int) (r : Int) (h : l_szRow a0 a1 = some r) : AC Tryd.prog 5 [.agg (Row.avs a0), .int .i64 a1] (.int .i64 r) := by
  unfold l_szRow at h
  refine ac_fn mixed Tryd.func5 rfl rfl rfl (by kernel_rfl) (by kernel_rfl) ?_
  try simp only [go_sem]
  refine cond_i (fun hb1 => ?_) (fun hb1 => ?_)
  · replace h := ifT (c := (decide ((IntKind.i64.wrap (a1 - ((ByteArray.size a0.name : Nat) : Int))) < 0))) hb1 h
    try simp only [go_sem]
    replace h := Option.some.inj h
    obtain rfl := h
    simp only [go_sem]
  · replace h := ifF (c := (decide ((IntKind.i64.wrap (a1 - ((ByteArray.size a0.name : Nat) : Int))) < 0))) hb1 h
    try simp only [go_sem]
    refine seq_go ?_
    try simp only [go_sem]
    refine cond_i (fun hb2 => ?_) (fun hb2 => ?_)
    · replace h := ifT (c := (decide ((IntKind.i64.wrap ((IntKind.i64.wrap (a1 - ((ByteArray.size a0.name : Nat) : Int))) - ((ByteArray.size a0.typ : Nat) : Int))) < 0))) hb2 h
      try simp only [go_sem]
      replace h := Option.some.inj h
      obtain rfl := h
      simp only [go_sem]
    · replace h := ifF (c := (decide ((IntKind.i64.wrap ((IntKind.i64.wrap (a1 - ((ByteArray.size a0.name : Nat) : Int))) - ((ByteArray.size a0.typ : Nat) : Int))) < 0))) hb2 h
      try simp only [go_sem]
      refine seq_go ?_
      try simp only [go_sem]
      replace h := bindE h
      obtain ⟨v8003, hv8003, h⟩ := h
      refine call_i (l_szInt64S_ok _ _ _ hv8003) ?_
      try simp only [go_sem]
      refine cond_i (fun hb3 => ?_) (fun hb3 => ?_)
      · replace h := ifT (c := (decide (v8003 < 0))) hb3 h
        try simp only [go_sem]
        replace h := Option.some.inj h
        obtain rfl := h
        simp only [go_sem]
      · replace h := ifF (c := (decide (v8003 < 0))) hb3 h
        try simp only [go_sem]
        refine seq_go ?_
        try simp only [go_sem]
        replace h := Option.some.inj h
        obtain rfl := h
        simp only [go_sem]
theorem s_RowLine_l3_all (n : Nat) : (∀ (a0 : Row) (p2_0 : ByteArray) (p2_1 : Int) (r : ByteArray), s_RowLine_l3 n a0 p2_0 p2_1 = some r → posF Tryd.prog Tryd.f6 [1, 1, 1, 1, 0, 1, 0] (.str r) ⟨[(1, .box 1000002500 0), (4, .str p2_0), (5, .int .i64 p2_1)], [], [(1000002500, some [.str a0.name, .str a0.typ, .int .i64 a0.size, .int .i64 a0.agents, .ro (List.map i64D a0.uses)])]⟩) := by
  induction n with
  | zero => exact ((fun _ _ _ _ h => by rw [s_RowLine_l3] at h; cases h))
  | succ n ih =>
    have ih0 := ih
    · intro a0 p2_0 p2_1 r h
      rw [s_RowLine_l3] at h
      refine posF_of rfl rfl ?_
      try simp only [go_sem]
      refine loop_i ?_
      try simp only [go_sem]
      refine cond_i (fun hb2 => ?_) (fun hb2 => ?_)
      · replace h := ifT (c := (decide (p2_1 < ((List.length a0.uses : Nat) : Int)))) hb2 h
        try simp only [go_sem]
        refine seq_go ?_
        try simp only [go_sem]
        replace h := bindE h
        obtain ⟨v9004, hv9004, h⟩ := h
        refine idx_m hv9004 rfl ?_
        try simp only [go_sem]
        replace h := bindE h
        obtain ⟨v9006, hv9006, h⟩ := h
        refine call_i (s_Decimal_ok _ _ hv9006) ?_
        try simp only [go_sem]
        replace h := bindE h
        obtain ⟨v9007, hv9007, h⟩ := h
        have hq_ := sapp_some hv9007
        obtain ⟨hv9007a, hv9007b⟩ := hq_
        refine and_i hv9007a ?_
        rw [hv9007b]
        try simp only [go_sem]
        replace h := bindE h
        obtain ⟨v9008, hv9008, h⟩ := h
        have hq_ := sapp_some hv9008
        obtain ⟨hv9008a, hv9008b⟩ := hq_
        refine and_i hv9008a ?_
        rw [hv9008b]
        try simp only [go_sem]
        refine seq_go ?_
        try simp only [go_sem]
        have hj := posF_to rfl rfl (ih0 a0 v9008 (IntKind.i64.wrap (p2_1 + 1)) _ h)
        refine lp_to hj (.one ⟨_, .done _, [], [(1000002500, 1000002500)], ?_⟩)
        clear hj
        try simp only [go_sem]
      · replace h := ifF (c := (decide (p2_1 < ((List.length a0.uses : Nat) : Int)))) hb2 h
        try simp only [go_sem]
        refine seq_go ?_
        try simp only [go_sem]
        replace h := Option.some.inj h
        obtain rfl := h
        simp only [go_sem]
theorem s_RowLine_l3_ok (n : Nat) : (∀ (a0 : Row) (p2_0 : ByteArray) (p2_1 : Int) (r : ByteArray), s_RowLine_l3 n a0 p2_0 p2_1 = some r → posF Tryd.prog Tryd.f6 [1, 1, 1, 1, 0, 1, 0] (.str r) ⟨[(1, .box 1000002500 0), (4, .str p2_0), (5, .int .i64 p2_1)], [], [(1000002500, some [.str a0.name, .str a0.typ, .int .i64 a0.size, .int .i64 a0.agents, .ro (List.map i64D a0.uses)])]⟩) := (s_RowLine_l3_all n)

theorem s_RowLine_j1_ok (a0 : Row) (p0_0 : ByteArray) (r : ByteArray) (h : s_RowLine_j1 a0 p0_0 = some r) : posF Tryd.prog Tryd.f6 [1, 1, 1] (.str r) ⟨[(1, .box 1000000500 0), (3, .str p0_0)], [], [(1000000500, some [.str a0.name, .str a0.typ, .int .i64 a0.size, .int .i64 a0.agents, .ro (List.map i64D a0.uses)])]⟩ := by
  unfold s_RowLine_j1 at h
  refine posF_of rfl rfl ?_
  try simp only [go_sem]
  refine draw_i [] .fin (by kernel_rfl) ?_
  try simp only [go_sem]
  replace h := bindE h
  obtain ⟨v5002, hv5002, h⟩ := h
  have hq_ := sapp_some hv5002
  obtain ⟨hv5002a, hv5002b⟩ := hq_
  refine and_i hv5002a ?_
  rw [hv5002b]
  try simp only [go_sem]
  replace h := bindE h
  obtain ⟨v5004, hv5004, h⟩ := h
  have hq_ := sapp_some hv5004
  obtain ⟨hv5004a, hv5004b⟩ := hq_
  refine and_i hv5004a ?_
  rw [hv5004b]
  try simp only [go_sem]
  replace h := bindE h
  obtain ⟨v5005, hv5005, h⟩ := h
  have hq_ := sapp_some hv5005
  obtain ⟨hv5005a, hv5005b⟩ := hq_
  refine and_i hv5005a ?_
  rw [hv5005b]
  try simp only [go_sem]
  replace h := bindE h
  obtain ⟨v5008, hv5008, h⟩ := h
  refine call_i (s_Decimal_ok _ _ hv5008) ?_
  try simp only [go_sem]
  replace h := bindE h
  obtain ⟨v5009, hv5009, h⟩ := h
  have hq_ := sapp_some hv5009
  obtain ⟨hv5009a, hv5009b⟩ := hq_
  refine and_i hv5009a ?_
  rw [hv5009b]
  try simp only [go_sem]
  replace h := bindE h
  obtain ⟨v5010, hv5010, h⟩ := h
  have hq_ := sapp_some hv5010
  obtain ⟨hv5010a, hv5010b⟩ := hq_
  refine and_i hv5010a ?_
  rw [hv5010b]
  try simp only [go_sem]
  replace h := bindE h
  obtain ⟨v5013, hv5013, h⟩ := h
  refine call_i (s_Decimal_ok _ _ hv5013) ?_
  try simp only [go_sem]
  replace h := bindE h
  obtain ⟨v5014, hv5014, h⟩ := h
  have hq_ := sapp_some hv5014
  obtain ⟨hv5014a, hv5014b⟩ := hq_
  refine and_i hv5014a ?_
  rw [hv5014b]
  try simp only [go_sem]
  refine seq_go ?_
  try simp only [go_sem]
  have hj := posF_to rfl rfl (s_RowLine_l3_ok fuel a0 v5014 0 _ h)
  refine loop_to hj (.one ⟨_, .done _, [], [(1000002500, 1000000500)], ?_⟩)
  clear hj
  try simp only [go_sem]
theorem s_RowLine_ok (a0 : Row) (r : ByteArray) (h : s_RowLine a0 = some r) : AC Tryd.prog 6 [.agg (Row.avs a0)] (.str r) := by
  unfold s_RowLine at h
  refine ac_fn mixed Tryd.func6 rfl rfl rfl (by kernel_rfl) (by kernel_rfl) ?_
  try simp only [go_sem]
  refine cond_i (fun hb1 => ?_) (fun hb1 => ?_)
  · replace h := ifT (c := (sameStr a0.typ (ByteArray.mk #[]))) hb1 h
    try simp only [go_sem]
    have hj := posF_to rfl rfl (s_RowLine_j1_ok a0 (ByteArray.mk #[63]) _ h)
    refine seq_to hj (.one ⟨_, .done _, [], [(1000000500, 1000)], ?_⟩)
    clear hj
    try simp only [go_sem]
  · replace h := ifF (c := (sameStr a0.typ (ByteArray.mk #[]))) hb1 h
    try simp only [go_sem]
    have hj := posF_to rfl rfl (s_RowLine_j1_ok a0 a0.typ _ h)
    refine seq_to hj (.one ⟨_, .done _, [], [(1000000500, 1000)], ?_⟩)
    clear hj
    try simp only [go_sem]
theorem l_toRow_ok (a0 : Row) (r : Row) (h : l_toRow a0 = some r) : AC Tryd.prog 7 [.agg (Row.avs a0)] (.agg (Row.rv r)) := by
  unfold l_toRow at h
  refine ac_fn mixed Tryd.func7 rfl rfl rfl (by kernel_rfl) (by kernel_rfl) ?_
  try simp only [go_sem]
  replace h := bindE h
  obtain ⟨v7002, hv7002, h⟩ := h
  refine call_i (l_toInt64S_ok _ _ hv7002) ?_
  try simp only [go_sem]
  replace h := Option.some.inj h
  obtain rfl := h
  simp only [go_sem]
theorem i_RowLine_l2_all (n : Nat) : (∀ (a0 : Row) (p1_0 : ByteArray) (p1_1 : Int) (r : ByteArray), i_RowLine_l2 n a0 p1_0 p1_1 = some r → posF Tryd.prog Tryd.f8 [1, 1, 1, 1, 0, 1, 0] (.str r) ⟨[(3, .str p1_0), (29, .ro (List.map i64D a0.uses)), (30, .int .i64 ((List.length a0.uses : Nat) : Int)), (31, .int .i64 p1_1)], [], []⟩) := by
  induction n with
  | zero => exact ((fun _ _ _ _ h => by rw [i_RowLine_l2] at h; cases h))
  | succ n ih =>
    have ih0 := ih
    · intro a0 p1_0 p1_1 r h
      rw [i_RowLine_l2] at h
      refine posF_of rfl rfl ?_
      try simp only [go_sem]
      refine loop_i ?_
      try simp only [go_sem]
      refine cond_i (fun hb2 => ?_) (fun hb2 => ?_)
      · replace h := ifT (c := (decide (p1_1 < ((List.length a0.uses : Nat) : Int)))) hb2 h
        try simp only [go_sem]
        refine seq_go ?_
        try simp only [go_sem]
        replace h := bindE h
        obtain ⟨v8000, hv8000, h⟩ := h
        refine idx_m hv8000 rfl ?_
        try simp only [go_sem]
        replace h := bindE h
        obtain ⟨v9002, hv9002, h⟩ := h
        refine call_i (i_Decimal_ok _ _ hv9002) ?_
        try simp only [go_sem]
        replace h := bindE h
        obtain ⟨v9003, hv9003, h⟩ := h
        have hq_ := sapp_some hv9003
        obtain ⟨hv9003a, hv9003b⟩ := hq_
        refine and_i hv9003a ?_
        rw [hv9003b]
        try simp only [go_sem]
        replace h := bindE h
        obtain ⟨v9004, hv9004, h⟩ := h
        have hq_ := sapp_some hv9004
        obtain ⟨hv9004a, hv9004b⟩ := hq_
        refine and_i hv9004a ?_
        rw [hv9004b]
        try simp only [go_sem]
        refine seq_go ?_
        try simp only [go_sem]
        have hj := posF_to rfl rfl (ih0 a0 v9004 (IntKind.i64.wrap (p1_1 + 1)) _ h)
        refine lp_to hj (.one ⟨_, .done _, [], [], ?_⟩)
        clear hj
        try simp only [go_sem]
      · replace h := ifF (c := (decide (p1_1 < ((List.length a0.uses : Nat) : Int)))) hb2 h
        try simp only [go_sem]
        refine seq_go ?_
        try simp only [go_sem]
        replace h := Option.some.inj h
        obtain rfl := h
        simp only [go_sem]
theorem i_RowLine_l2_ok (n : Nat) : (∀ (a0 : Row) (p1_0 : ByteArray) (p1_1 : Int) (r : ByteArray), i_RowLine_l2 n a0 p1_0 p1_1 = some r → posF Tryd.prog Tryd.f8 [1, 1, 1, 1, 0, 1, 0] (.str r) ⟨[(3, .str p1_0), (29, .ro (List.map i64D a0.uses)), (30, .int .i64 ((List.length a0.uses : Nat) : Int)), (31, .int .i64 p1_1)], [], []⟩) := (i_RowLine_l2_all n)

theorem i_RowLine_j1_ok (a0 : Row) (p0_0 : ByteArray) (r : ByteArray) (h : i_RowLine_j1 a0 p0_0 = some r) : posF Tryd.prog Tryd.f8 [1, 1, 1] (.str r) ⟨[(1, .box 1000000500 0), (3, .str p0_0)], [], [(1000000500, some [.str a0.name, .str a0.typ, .int .i64 a0.size, .int .i64 a0.agents, .ro (List.map i64D a0.uses)])]⟩ := by
  unfold i_RowLine_j1 at h
  refine posF_of rfl rfl ?_
  try simp only [go_sem]
  refine draw_i [] .fin (by kernel_rfl) ?_
  try simp only [go_sem]
  replace h := bindE h
  obtain ⟨v5003, hv5003, h⟩ := h
  have hq_ := sapp_some hv5003
  obtain ⟨hv5003a, hv5003b⟩ := hq_
  refine and_i hv5003a ?_
  rw [hv5003b]
  try simp only [go_sem]
  replace h := bindE h
  obtain ⟨v5006, hv5006, h⟩ := h
  refine call_i (i_Decimal_ok _ _ hv5006) ?_
  try simp only [go_sem]
  replace h := bindE h
  obtain ⟨v5007, hv5007, h⟩ := h
  have hq_ := sapp_some hv5007
  obtain ⟨hv5007a, hv5007b⟩ := hq_
  refine and_i hv5007a ?_
  rw [hv5007b]
  try simp only [go_sem]
  replace h := bindE h
  obtain ⟨v5008, hv5008, h⟩ := h
  have hq_ := sapp_some hv5008
  obtain ⟨hv5008a, hv5008b⟩ := hq_
  refine and_i hv5008a ?_
  rw [hv5008b]
  try simp only [go_sem]
  replace h := bindE h
  obtain ⟨v5011, hv5011, h⟩ := h
  refine call_i (i_Decimal_ok _ _ hv5011) ?_
  try simp only [go_sem]
  replace h := bindE h
  obtain ⟨v5012, hv5012, h⟩ := h
  have hq_ := sapp_some hv5012
  obtain ⟨hv5012a, hv5012b⟩ := hq_
  refine and_i hv5012a ?_
  rw [hv5012b]
  try simp only [go_sem]
  replace h := bindE h
  obtain ⟨v5013, hv5013, h⟩ := h
  have hq_ := sapp_some hv5013
  obtain ⟨hv5013a, hv5013b⟩ := hq_
  refine and_i hv5013a ?_
  rw [hv5013b]
  try simp only [go_sem]
  refine seq_go ?_
  try simp only [go_sem]
  have hj := posF_to rfl rfl (i_RowLine_l2_ok fuel a0 v5013 0 _ h)
  refine loop_to hj (.one ⟨_, .done _, [], [], ?_⟩)
  clear hj
  try simp only [go_sem]
theorem i_RowLine_ok (a0 : Row) (r : ByteArray) (h : i_RowLine a0 = some r) : AC Tryd.prog 8 [.agg (Row.avs a0)] (.str r) := by
  unfold i_RowLine at h
  refine ac_fn mixed Tryd.func8 rfl rfl rfl (by kernel_rfl) (by kernel_rfl) ?_
  try simp only [go_sem]
  replace h := bindE h
  obtain ⟨v2002, hv2002, h⟩ := h
  have hq_ := sapp_some hv2002
  obtain ⟨hv2002a, hv2002b⟩ := hq_
  refine and_i hv2002a ?_
  rw [hv2002b]
  try simp only [go_sem]
  refine cond_i (fun hb1 => ?_) (fun hb1 => ?_)
  · replace h := ifT (c := (sameStr a0.typ (ByteArray.mk #[]))) hb1 h
    try simp only [go_sem]
    replace h := bindE h
    obtain ⟨v4001, hv4001, h⟩ := h
    have hq_ := sapp_some hv4001
    obtain ⟨hv4001a, hv4001b⟩ := hq_
    refine and_i hv4001a ?_
    rw [hv4001b]
    try simp only [go_sem]
    have hj := posF_to rfl rfl (i_RowLine_j1_ok a0 v4001 _ h)
    refine seq_to hj (.one ⟨_, .done _, [], [(1000000500, 1000)], ?_⟩)
    clear hj
    try simp only [go_sem]
  · replace h := ifF (c := (sameStr a0.typ (ByteArray.mk #[]))) hb1 h
    try simp only [go_sem]
    have hj := posF_to rfl rfl (i_RowLine_j1_ok a0 v2002 _ h)
    refine seq_to hj (.one ⟨_, .done _, [], [(1000000500, 1000)], ?_⟩)
    clear hj
    try simp only [go_sem]
theorem l_eqRow_ok (a0 : Row) (a1 : Row) (r : Bool) (h : l_eqRow a0 a1 = some r) : AC Tryd.prog 9 [.agg (Row.avs a0), .agg (Row.avs a1)] (.bool r) := by
  unfold l_eqRow at h
  refine ac_fn mixed Tryd.func9 rfl rfl rfl (by kernel_rfl) (by kernel_rfl) ?_
  try simp only [go_sem]
  refine cond_i (fun hb1 => ?_) (fun hb1 => ?_)
  · replace h := ifT (c := (!sameStr a0.name a1.name)) hb1 h
    try simp only [go_sem]
    replace h := Option.some.inj h
    obtain rfl := h
    simp only [go_sem]
  · replace h := ifF (c := (!sameStr a0.name a1.name)) hb1 h
    try simp only [go_sem]
    refine seq_go ?_
    try simp only [go_sem]
    refine cond_i (fun hb2 => ?_) (fun hb2 => ?_)
    · replace h := ifT (c := (!sameStr a0.typ a1.typ)) hb2 h
      try simp only [go_sem]
      replace h := Option.some.inj h
      obtain rfl := h
      simp only [go_sem]
    · replace h := ifF (c := (!sameStr a0.typ a1.typ)) hb2 h
      try simp only [go_sem]
      refine seq_go ?_
      try simp only [go_sem]
      refine cond_i (fun hb3 => ?_) (fun hb3 => ?_)
      · replace h := ifT (c := (!decide (a0.size = a1.size))) hb3 h
        try simp only [go_sem]
        replace h := Option.some.inj h
        obtain rfl := h
        simp only [go_sem]
      · replace h := ifF (c := (!decide (a0.size = a1.size))) hb3 h
        try simp only [go_sem]
        refine seq_go ?_
        try simp only [go_sem]
        refine cond_i (fun hb4 => ?_) (fun hb4 => ?_)
        · replace h := ifT (c := (!decide (a0.agents = a1.agents))) hb4 h
          try simp only [go_sem]
          replace h := Option.some.inj h
          obtain rfl := h
          simp only [go_sem]
        · replace h := ifF (c := (!decide (a0.agents = a1.agents))) hb4 h
          try simp only [go_sem]
          refine seq_go ?_
          try simp only [go_sem]
          replace h := bindE h
          obtain ⟨v10004, hv10004, h⟩ := h
          refine call_i (l_eqInt64S_ok _ _ _ hv10004) ?_
          try simp only [go_sem]
          refine cond_i (fun hb5 => ?_) (fun hb5 => ?_)
          · replace h := ifT (c := (!v10004)) hb5 h
            try simp only [go_sem]
            replace h := Option.some.inj h
            obtain rfl := h
            simp only [go_sem]
          · replace h := ifF (c := (!v10004)) hb5 h
            try simp only [go_sem]
            refine seq_go ?_
            try simp only [go_sem]
            replace h := Option.some.inj h
            obtain rfl := h
            simp only [go_sem]
theorem l_FnExactRowLine_ok (a0 : Row) (r : Bool) (h : l_FnExactRowLine a0 = some r) : AC Tryd.prog 3 [.agg (Row.avs a0)] (.bool r) := by
  unfold l_FnExactRowLine at h
  refine ac_fn mixed Tryd.func3 rfl rfl rfl (by kernel_rfl) (by kernel_rfl) ?_
  try simp only [go_sem]
  replace h := bindE h
  obtain ⟨v3002, hv3002, h⟩ := h
  refine call_i (l_szRow_ok _ _ _ hv3002) ?_
  try simp only [go_sem]
  refine cond_i (fun hb1 => ?_) (fun hb1 => ?_)
  · replace h := ifT (c := (decide (v3002 < 0))) hb1 h
    try simp only [go_sem]
    replace h := Option.some.inj h
    obtain rfl := h
    simp only [go_sem]
  · replace h := ifF (c := (decide (v3002 < 0))) hb1 h
    try simp only [go_sem]
    refine seq_go ?_
    try simp only [go_sem]
    replace h := bindE h
    obtain ⟨v6001, hv6001, h⟩ := h
    refine call_i (l_toRow_ok _ _ hv6001) ?_
    try simp only [go_sem]
    replace h := bindE h
    obtain ⟨v6002, hv6002, h⟩ := h
    refine call_i (s_RowLine_ok _ _ hv6002) ?_
    try simp only [go_sem]
    replace h := bindE h
    obtain ⟨v7001, hv7001, h⟩ := h
    refine call_i (l_toRow_ok _ _ hv7001) ?_
    try simp only [go_sem]
    replace h := bindE h
    obtain ⟨v8001, hv8001, h⟩ := h
    refine call_i (i_RowLine_ok _ _ hv8001) ?_
    try simp only [go_sem]
    refine cond_i (fun hb2 => ?_) (fun hb2 => ?_)
    · replace h := ifT (c := (!sameStr v8001 v6002)) hb2 h
      try simp only [go_sem]
      replace h := Option.some.inj h
      obtain rfl := h
      simp only [go_sem]
    · replace h := ifF (c := (!sameStr v8001 v6002)) hb2 h
      try simp only [go_sem]
      refine seq_go ?_
      try simp only [go_sem]
      refine draw_i [] .fin (by kernel_rfl) ?_
      try simp only [go_sem]
      replace h := bindE h
      obtain ⟨v11002, hv11002, h⟩ := h
      refine call_i (l_toRow_ok _ _ hv11002) ?_
      try simp only [go_sem]
      replace h := bindE h
      obtain ⟨v11003, hv11003, h⟩ := h
      refine call_i (l_eqRow_ok _ _ _ hv11003) ?_
      try simp only [go_sem]
      refine seq_go ?_
      try simp only [go_sem]
      refine cond_i (fun hb3 => ?_) (fun hb3 => ?_)
      · replace h := ifT (c := (!v11003)) hb3 h
        try simp only [go_sem]
        replace h := Option.some.inj h
        obtain rfl := h
        simp only [go_sem]
      · replace h := ifF (c := (!v11003)) hb3 h
        try simp only [go_sem]
        refine seq_go ?_
        try simp only [go_sem]
        replace h := Option.some.inj h
        obtain rfl := h
        simp only [go_sem]
end Go.Proofs.YtlmanchbpommaaaDoor.Ab
