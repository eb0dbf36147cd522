/-
  The functions do what their models say. Printed by wip/ab/gen.py.
-/
import Derived.Test.YtlmanchbpommaaaDoorModP
import Derived.Test.YtlmanchbpommaaaDoorTi2
import Derived.Test.YtlmanchbpommaaaDoorWlkC
namespace Go.Proofs.YtlmanchbpommaaaDoor.Ab
set_option linter.unusedVariables false
set_option linter.unusedSimpArgs false
set_option maxRecDepth 20000
set_option maxHeartbeats 4000000
open Go.RowKit

theorem l_szCoreS_all (n : Nat) : (∀ (a0 : List Core) (a1 : Int) (r : Int), l_szCoreS n a0 a1 = some r → AC Tryd.prog 35 [.ro (List.map Core.ds a0), .int .i64 a1] (.int .i64 r)) ∧
    (∀ (a0 : List Core) (p0_0 : Int) (p0_1 : Int) (r : Int), l_szCoreS_l1 n a0 p0_0 p0_1 = some r → posF Tryd.prog Tryd.f35 [1, 1, 1, 0, 1, 0] (.int .i64 r) ⟨[(0, .ro (List.map Core.ds a0)), (1, .int .i64 p0_0), (5, .int .i64 p0_1)], [], []⟩) ∧
    (∀ (a0 : Core) (a1 : Int) (r : Int), l_szCore n a0 a1 = some r → AC Tryd.prog 24 [.agg (Core.avs a0), .int .i64 a1] (.int .i64 r)) := by
  induction n with
  | zero => exact ⟨(fun _ _ _ h => by rw [l_szCoreS] at h; cases h), (fun _ _ _ _ h => by rw [l_szCoreS_l1] at h; cases h), (fun _ _ _ h => by rw [l_szCore] at h; cases h)⟩
  | succ n ih =>
    obtain ⟨ih0, ih1, ih2⟩ := ih
    refine ⟨?_, ?_, ?_⟩
    · intro a0 a1 r h
      rw [l_szCoreS] at h
      refine ac_fn mixed Tryd.func35 rfl rfl rfl (by kernel_rfl) (by kernel_rfl) ?_
      try simp only [go_sem]
      refine cond_i (fun hb1 => ?_) (fun hb1 => ?_)
      · replace h := ifT (c := (decide ((IntKind.i64.wrap (a1 - ((List.length a0 : Nat) : Int))) < 0))) hb1 h
        try simp only [go_sem]
        replace h := Option.some.inj h
        obtain rfl := h
        simp only [go_sem]
      · replace h := ifF (c := (decide ((IntKind.i64.wrap (a1 - ((List.length a0 : Nat) : Int))) < 0))) hb1 h
        try simp only [go_sem]
        refine seq_go ?_
        try simp only [go_sem]
        have hj := posF_to rfl rfl (ih1 a0 (IntKind.i64.wrap (a1 - ((List.length a0 : Nat) : Int))) 0 _ h)
        refine loop_to hj (.one ⟨_, .done _, [], [], ?_⟩)
        clear hj
        try simp only [go_sem]
    · intro a0 p0_0 p0_1 r h
      rw [l_szCoreS_l1] at h
      refine posF_of rfl rfl ?_
      try simp only [go_sem]
      refine loop_i ?_
      try simp only [go_sem]
      refine cond_i (fun hb2 => ?_) (fun hb2 => ?_)
      · replace h := ifT (c := (decide (p0_1 < ((List.length a0 : Nat) : Int)))) hb2 h
        try simp only [go_sem]
        refine seq_go ?_
        try simp only [go_sem]
        replace h := bindE h
        obtain ⟨v8002, hv8002, h⟩ := h
        refine idx_m hv8002 (Core.ds_len _) ?_
        try simp only [go_sem]
        replace h := bindE h
        obtain ⟨v8005, hv8005, h⟩ := h
        refine call_i (ih2 _ _ _ hv8005) ?_
        try simp only [go_sem]
        refine cond_i (fun hb3 => ?_) (fun hb3 => ?_)
        · replace h := ifT (c := (decide (v8005 < 0))) hb3 h
          try simp only [go_sem]
          replace h := Option.some.inj h
          obtain rfl := h
          simp only [go_sem]
        · replace h := ifF (c := (decide (v8005 < 0))) hb3 h
          try simp only [go_sem]
          refine seq_go ?_
          try simp only [go_sem]
          have hj := posF_to rfl rfl (ih1 a0 v8005 (IntKind.i64.wrap (p0_1 + 1)) _ h)
          refine lp_to hj (.one ⟨_, .done _, [], [], ?_⟩)
          clear hj
          try simp only [go_sem]
      · replace h := ifF (c := (decide (p0_1 < ((List.length a0 : Nat) : Int)))) hb2 h
        try simp only [go_sem]
        refine seq_go ?_
        try simp only [go_sem]
        replace h := Option.some.inj h
        obtain rfl := h
        simp only [go_sem]
    · intro a0 a1 r h
      rw [l_szCore] at h
      refine ac_fn mixed Tryd.func24 rfl rfl rfl (by kernel_rfl) (by kernel_rfl) ?_
      try simp only [go_sem]
      replace h := bindE h
      obtain ⟨v2003, hv2003, h⟩ := h
      refine call_i (l_szInt64S_ok _ _ _ hv2003) ?_
      try simp only [go_sem]
      refine cond_i (fun hb1 => ?_) (fun hb1 => ?_)
      · replace h := ifT (c := (decide (v2003 < 0))) hb1 h
        try simp only [go_sem]
        replace h := Option.some.inj h
        obtain rfl := h
        simp only [go_sem]
      · replace h := ifF (c := (decide (v2003 < 0))) hb1 h
        try simp only [go_sem]
        refine seq_go ?_
        try simp only [go_sem]
        replace h := bindE h
        obtain ⟨v5003, hv5003, h⟩ := h
        refine call_i (ih0 _ _ _ hv5003) ?_
        try simp only [go_sem]
        refine cond_i (fun hb2 => ?_) (fun hb2 => ?_)
        · replace h := ifT (c := (decide (v5003 < 0))) hb2 h
          try simp only [go_sem]
          replace h := Option.some.inj h
          obtain rfl := h
          simp only [go_sem]
        · replace h := ifF (c := (decide (v5003 < 0))) hb2 h
          try simp only [go_sem]
          refine seq_go ?_
          try simp only [go_sem]
          replace h := Option.some.inj h
          obtain rfl := h
          simp only [go_sem]
theorem l_szCoreS_ok (n : Nat) : (∀ (a0 : List Core) (a1 : Int) (r : Int), l_szCoreS n a0 a1 = some r → AC Tryd.prog 35 [.ro (List.map Core.ds a0), .int .i64 a1] (.int .i64 r)) := (l_szCoreS_all n).1
theorem l_szCoreS_l1_ok (n : Nat) : (∀ (a0 : List Core) (p0_0 : Int) (p0_1 : Int) (r : Int), l_szCoreS_l1 n a0 p0_0 p0_1 = some r → posF Tryd.prog Tryd.f35 [1, 1, 1, 0, 1, 0] (.int .i64 r) ⟨[(0, .ro (List.map Core.ds a0)), (1, .int .i64 p0_0), (5, .int .i64 p0_1)], [], []⟩) := (l_szCoreS_all n).2.1
theorem l_szCore_ok (n : Nat) : (∀ (a0 : Core) (a1 : Int) (r : Int), l_szCore n a0 a1 = some r → AC Tryd.prog 24 [.agg (Core.avs a0), .int .i64 a1] (.int .i64 r)) := (l_szCoreS_all n).2.2

theorem l_szReport_ok (a0 : Report) (a1 : Int) (r : Int) (h : l_szReport a0 a1 = some r) : AC Tryd.prog 10 [.agg (Report.avs a0), .int .i64 a1] (.int .i64 r) := by
  unfold l_szReport at h
  refine ac_fn mixed Tryd.func10 rfl rfl rfl (by kernel_rfl) (by kernel_rfl) ?_
  try simp only [go_sem]
  replace h := bindE h
  obtain ⟨v2003, hv2003, h⟩ := h
  refine call_i (l_szCore_ok fuel _ _ _ hv2003) ?_
  try simp only [go_sem]
  refine cond_i (fun hb1 => ?_) (fun hb1 => ?_)
  · replace h := ifT (c := (decide (v2003 < 0))) hb1 h
    try simp only [go_sem]
    replace h := Option.some.inj h
    obtain rfl := h
    simp only [go_sem]
  · replace h := ifF (c := (decide (v2003 < 0))) hb1 h
    try simp only [go_sem]
    refine seq_go ?_
    try simp only [go_sem]
    replace h := bindE h
    obtain ⟨v5003, hv5003, h⟩ := h
    refine call_i (l_szInt64S_ok _ _ _ hv5003) ?_
    try simp only [go_sem]
    refine cond_i (fun hb2 => ?_) (fun hb2 => ?_)
    · replace h := ifT (c := (decide (v5003 < 0))) hb2 h
      try simp only [go_sem]
      replace h := Option.some.inj h
      obtain rfl := h
      simp only [go_sem]
    · replace h := ifF (c := (decide (v5003 < 0))) hb2 h
      try simp only [go_sem]
      refine seq_go ?_
      try simp only [go_sem]
      replace h := bindE h
      obtain ⟨v8003, hv8003, h⟩ := h
      refine call_i (l_szInt64S_ok _ _ _ hv8003) ?_
      try simp only [go_sem]
      refine cond_i (fun hb3 => ?_) (fun hb3 => ?_)
      · replace h := ifT (c := (decide (v8003 < 0))) hb3 h
        try simp only [go_sem]
        replace h := Option.some.inj h
        obtain rfl := h
        simp only [go_sem]
      · replace h := ifF (c := (decide (v8003 < 0))) hb3 h
        try simp only [go_sem]
        refine seq_go ?_
        try simp only [go_sem]
        replace h := Option.some.inj h
        obtain rfl := h
        simp only [go_sem]
theorem s_l35List_l3_all (n : Nat) : (∀ (a0 : List Int) (p0_0 : ByteArray) (p0_1 : Int) (r : ByteArray), s_l35List_l3 n a0 p0_0 p0_1 = some r → posF Tryd.prog Tryd.f26 [1, 1, 0, 1, 0] (.str r) ⟨[(0, .ro (List.map i64D a0)), (3, .str p0_0), (4, .int .i64 p0_1)], [], []⟩) ∧
    (∀ (a0 : List Int) (p0_1 : Int) (p1_0 : ByteArray) (r : ByteArray), s_l35List_j4 n a0 p0_1 p1_0 = some r → posF Tryd.prog Tryd.f26 [1, 1, 0, 1, 0, 0, 1, 0, 0, 1] (.str r) ⟨[(0, .ro (List.map i64D a0)), (3, .str p1_0), (4, .int .i64 p0_1)], [], []⟩) := by
  induction n with
  | zero => exact ⟨(fun _ _ _ _ h => by rw [s_l35List_l3] at h; cases h), (fun _ _ _ _ h => by rw [s_l35List_j4] at h; cases h)⟩
  | succ n ih =>
    obtain ⟨ih0, ih1⟩ := ih
    refine ⟨?_, ?_⟩
    · intro a0 p0_0 p0_1 r h
      rw [s_l35List_l3] at h
      refine posF_of rfl rfl ?_
      try simp only [go_sem]
      refine loop_i ?_
      try simp only [go_sem]
      refine cond_i (fun hb1 => ?_) (fun hb1 => ?_)
      · replace h := ifT (c := (decide (p0_1 < ((List.length a0 : Nat) : Int)))) hb1 h
        try simp only [go_sem]
        refine seq_go ?_
        try simp only [go_sem]
        refine cond_i (fun hb2 => ?_) (fun hb2 => ?_)
        · replace h := ifT (c := (decide (0 < p0_1))) hb2 h
          try simp only [go_sem]
          replace h := bindE h
          obtain ⟨v7001, hv7001, h⟩ := h
          have hq_ := sapp_some hv7001
          obtain ⟨hv7001a, hv7001b⟩ := hq_
          refine and_i hv7001a ?_
          rw [hv7001b]
          try simp only [go_sem]
          have hj := posF_to rfl rfl (ih1 a0 p0_1 v7001 _ h)
          refine seq_to hj (.one ⟨_, .done _, [], [], ?_⟩)
          clear hj
          try simp only [go_sem]
        · replace h := ifF (c := (decide (0 < p0_1))) hb2 h
          try simp only [go_sem]
          have hj := posF_to rfl rfl (ih1 a0 p0_1 p0_0 _ h)
          refine seq_to hj (.one ⟨_, .done _, [], [], ?_⟩)
          clear hj
          try simp only [go_sem]
      · replace h := ifF (c := (decide (p0_1 < ((List.length a0 : Nat) : Int)))) hb1 h
        try simp only [go_sem]
        refine seq_go ?_
        try simp only [go_sem]
        replace h := Option.some.inj h
        obtain rfl := h
        simp only [go_sem]
    · intro a0 p0_1 p1_0 r h
      rw [s_l35List_j4] at h
      refine posF_of rfl rfl ?_
      try simp only [go_sem]
      replace h := bindE h
      obtain ⟨v8003, hv8003, h⟩ := h
      refine idx_m hv8003 rfl ?_
      try simp only [go_sem]
      replace h := bindE h
      obtain ⟨v8005, hv8005, h⟩ := h
      refine call_i (s_Decimal_ok _ _ hv8005) ?_
      try simp only [go_sem]
      replace h := bindE h
      obtain ⟨v8006, hv8006, h⟩ := h
      have hq_ := sapp_some hv8006
      obtain ⟨hv8006a, hv8006b⟩ := hq_
      refine and_i hv8006a ?_
      rw [hv8006b]
      try simp only [go_sem]
      refine seq_go ?_
      try simp only [go_sem]
      have hj := posF_to rfl rfl (ih0 a0 v8006 (IntKind.i64.wrap (p0_1 + 1)) _ h)
      refine lp_to hj (.one ⟨_, .done _, [], [], ?_⟩)
      clear hj
      try simp only [go_sem]
theorem s_l35List_l3_ok (n : Nat) : (∀ (a0 : List Int) (p0_0 : ByteArray) (p0_1 : Int) (r : ByteArray), s_l35List_l3 n a0 p0_0 p0_1 = some r → posF Tryd.prog Tryd.f26 [1, 1, 0, 1, 0] (.str r) ⟨[(0, .ro (List.map i64D a0)), (3, .str p0_0), (4, .int .i64 p0_1)], [], []⟩) := (s_l35List_l3_all n).1
theorem s_l35List_j4_ok (n : Nat) : (∀ (a0 : List Int) (p0_1 : Int) (p1_0 : ByteArray) (r : ByteArray), s_l35List_j4 n a0 p0_1 p1_0 = some r → posF Tryd.prog Tryd.f26 [1, 1, 0, 1, 0, 0, 1, 0, 0, 1] (.str r) ⟨[(0, .ro (List.map i64D a0)), (3, .str p1_0), (4, .int .i64 p0_1)], [], []⟩) := (s_l35List_l3_all n).2

theorem s_l35List_ok (a0 : List Int) (r : ByteArray) (h : s_l35List a0 = some r) : AC Tryd.prog 26 [.ro (List.map i64D a0)] (.str r) := by
  unfold s_l35List at h
  refine ac_fn mixed Tryd.func26 rfl rfl rfl (by kernel_rfl) (by kernel_rfl) ?_
  try simp only [go_sem]
  have hj := posF_to rfl rfl (s_l35List_l3_ok fuel a0 (ByteArray.mk #[]) 0 _ h)
  refine loop_to hj (.one ⟨_, .done _, [], [], ?_⟩)
  clear hj
  try simp only [go_sem]
theorem s_ReportLines_ok (a0 : Report) (r : (List ByteArray)) (h : s_ReportLines a0 = some r) : AG Tryd.prog 11 [.agg [.int .i64 a0.result.kind, .int .i64 a0.result.value, .ro (List.map i64D a0.result.data), .ro (List.map Core.ds a0.result.kids), .ro (List.map i64D a0.interactions), .ro (List.map i64D a0.steps), .int .i64 a0.peak, .int .i64 a0.rounds, .int .i64 a0.entered]] [] [] (.own 1501) [(1501, ⟨List.map strD r, some 1, 0⟩)] [] := by
  unfold s_ReportLines at h
  refine ag_fn mixed Tryd.func11 rfl rfl rfl (by kernel_rfl) (by kernel_rfl) ?_
  try simp only [go_sem]
  refine draw_i [] .fin (by kernel_rfl) ?_
  try simp only [go_sem]
  replace h := bindE h
  obtain ⟨v2002, hv2002, h⟩ := h
  refine call_i (s_CoreText_ok _ _ hv2002) ?_
  try simp only [go_sem]
  replace h := bindE h
  obtain ⟨v2003, hv2003, h⟩ := h
  have hq_ := sapp_some hv2003
  obtain ⟨hv2003a, hv2003b⟩ := hq_
  refine and_i hv2003a ?_
  subst hv2003b
  try simp only [go_sem]
  replace h := bindE h
  obtain ⟨v2006, hv2006, h⟩ := h
  refine call_i (s_l35List_ok _ _ hv2006) ?_
  try simp only [go_sem]
  replace h := bindE h
  obtain ⟨v2007, hv2007, h⟩ := h
  have hq_ := sapp_some hv2007
  obtain ⟨hv2007a, hv2007b⟩ := hq_
  refine and_i hv2007a ?_
  subst hv2007b
  try simp only [go_sem]
  replace h := bindE h
  obtain ⟨v2010, hv2010, h⟩ := h
  refine call_i (s_l35List_ok _ _ hv2010) ?_
  try simp only [go_sem]
  replace h := bindE h
  obtain ⟨v2011, hv2011, h⟩ := h
  have hq_ := sapp_some hv2011
  obtain ⟨hv2011a, hv2011b⟩ := hq_
  refine and_i hv2011a ?_
  subst hv2011b
  try simp only [go_sem]
  replace h := bindE h
  obtain ⟨v2014, hv2014, h⟩ := h
  refine call_i (s_Decimal_ok _ _ hv2014) ?_
  try simp only [go_sem]
  replace h := bindE h
  obtain ⟨v2015, hv2015, h⟩ := h
  have hq_ := sapp_some hv2015
  obtain ⟨hv2015a, hv2015b⟩ := hq_
  refine and_i hv2015a ?_
  subst hv2015b
  try simp only [go_sem]
  replace h := bindE h
  obtain ⟨v2018, hv2018, h⟩ := h
  refine call_i (s_Decimal_ok _ _ hv2018) ?_
  try simp only [go_sem]
  replace h := bindE h
  obtain ⟨v2019, hv2019, h⟩ := h
  have hq_ := sapp_some hv2019
  obtain ⟨hv2019a, hv2019b⟩ := hq_
  refine and_i hv2019a ?_
  subst hv2019b
  try simp only [go_sem]
  replace h := bindE h
  obtain ⟨v2022, hv2022, h⟩ := h
  refine call_i (s_Decimal_ok _ _ hv2022) ?_
  try simp only [go_sem]
  replace h := bindE h
  obtain ⟨v2023, hv2023, h⟩ := h
  have hq_ := sapp_some hv2023
  obtain ⟨hv2023a, hv2023b⟩ := hq_
  refine and_i hv2023a ?_
  subst hv2023b
  try simp only [go_sem]
  refine seq_go ?_
  try simp only [go_sem]
  replace h := Option.some.inj h
  obtain rfl := h
  refine ret_i (.lit 0 2000000000 2024 6 1 [] _ _ (by (first | rfl | (simp only [go_sem]; rfl))) (by simp only [go_sem]; rfl) (by (first | rfl | (simp only [go_sem]; rfl))) (by (first | rfl | (simp only [go_sem]; rfl))) (by decide) (by decide) (by simp only [go_sem]) (.done _)) [(1501, 2000000000)] [] ?_
  simp only [go_sem]
  all_goals try rfl
theorem l_toCoreS_all (n : Nat) : (∀ (a0 : List Core) (r : (List Core)), l_toCoreS n a0 = some r → AC Tryd.prog 38 [.ro (List.map Core.ds a0)] (.ow (some 4) (List.map Core.ds r))) ∧
    (∀ (a0 : List Core) (p1_0 : List Core) (p1_1 : Int) (r : (List Core)), l_toCoreS_l2 n a0 p1_0 p1_1 = some r → posF Tryd.prog Tryd.f38 [1, 1, 0, 1, 0] (.ow (some 4) (List.map Core.ds r)) ⟨[(0, .ro (List.map Core.ds a0)), (3, .own 1000001000), (4, .int .i64 p1_1)], [(1000001000, some ⟨List.map Core.ds p1_0, some 4, 0⟩)], []⟩) ∧
    (∀ (a0 : Core) (r : Core), l_toCore n a0 = some r → AC Tryd.prog 27 [.agg (Core.avs a0)] (.agg (Core.rv r))) := by
  induction n with
  | zero => exact ⟨(fun _ _ h => by rw [l_toCoreS] at h; cases h), (fun _ _ _ _ h => by rw [l_toCoreS_l2] at h; cases h), (fun _ _ h => by rw [l_toCore] at h; cases h)⟩
  | succ n ih =>
    obtain ⟨ih0, ih1, ih2⟩ := ih
    refine ⟨?_, ?_, ?_⟩
    · intro a0 r h
      rw [l_toCoreS] at h
      refine ac_fn mixed Tryd.func38 rfl rfl rfl (by kernel_rfl) (by kernel_rfl) ?_
      try simp only [go_sem]
      replace h := bindE h
      obtain ⟨v2002, hv2002, h⟩ := h
      have hq_ := rep_some hv2002
      obtain ⟨hv2002a, hv2002b, hv2002c⟩ := hq_
      refine and_i (by refine ⟨?_, ?_, ?_⟩ <;> omega) ?_
      try simp only [go_sem]
      refine row_i (List.map Core.ds v2002) (by rw [← hv2002c]; simp only [List.map_replicate, go_sem, Core.ds_eq]) ?_
      try simp only [go_sem]
      have hj := posF_to rfl rfl (ih1 a0 v2002 0 _ h)
      refine loop_to hj (.one ⟨_, .done _, [(1000001000, 32032)], [], ?_⟩)
      clear hj
      try simp only [go_sem]
    · intro a0 p1_0 p1_1 r h
      rw [l_toCoreS_l2] at h
      refine posF_of rfl rfl ?_
      try simp only [go_sem]
      refine loop_i ?_
      try simp only [go_sem]
      refine cond_i (fun hb1 => ?_) (fun hb1 => ?_)
      · replace h := ifT (c := (decide (p1_1 < ((List.length a0 : Nat) : Int)))) hb1 h
        try simp only [go_sem]
        refine seq_go ?_
        try simp only [go_sem]
        replace h := bindE h
        obtain ⟨v6004, hv6004, h⟩ := h
        refine idx_m hv6004 (Core.ds_len _) ?_
        try simp only [go_sem]
        replace h := bindE h
        obtain ⟨v6006, hv6006, h⟩ := h
        refine call_i (ih2 _ _ hv6006) ?_
        try simp only [go_sem]
        replace h := bindE h
        obtain ⟨v6007, hv6007, h⟩ := h
        refine idx_m hv6007 (Core.ds_len _) ?_
        try simp only [go_sem]
        replace h := bindE h
        obtain ⟨v6008_12, hv6008_12, h⟩ := h
        refine opt_i (row_m hv6007) ?_
        try simp only [go_sem]
        refine row_i (List.map Core.ds v6008_12) (by rw [← set1_some hv6008_12]; simp only [List.map_set, go_sem, Core.ds_eq]) ?_
        try simp only [go_sem]
        refine seq_go ?_
        try simp only [go_sem]
        have hj := posF_to rfl rfl (ih1 a0 v6008_12 (IntKind.i64.wrap (p1_1 + 1)) _ h)
        refine lp_to hj (.one ⟨_, .done _, [(1000001000, 1000001000)], [], ?_⟩)
        clear hj
        try simp only [go_sem]
      · replace h := ifF (c := (decide (p1_1 < ((List.length a0 : Nat) : Int)))) hb1 h
        try simp only [go_sem]
        refine seq_go ?_
        try simp only [go_sem]
        replace h := Option.some.inj h
        obtain rfl := h
        simp only [go_sem]
    · intro a0 r h
      rw [l_toCore] at h
      refine ac_fn mixed Tryd.func27 rfl rfl rfl (by kernel_rfl) (by kernel_rfl) ?_
      try simp only [go_sem]
      replace h := bindE h
      obtain ⟨v5002, hv5002, h⟩ := h
      refine call_i (l_toInt64S_ok _ _ hv5002) ?_
      try simp only [go_sem]
      replace h := bindE h
      obtain ⟨v6002, hv6002, h⟩ := h
      refine call_i (ih0 _ _ hv6002) ?_
      try simp only [go_sem]
      replace h := Option.some.inj h
      obtain rfl := h
      simp only [go_sem]
theorem l_toCoreS_ok (n : Nat) : (∀ (a0 : List Core) (r : (List Core)), l_toCoreS n a0 = some r → AC Tryd.prog 38 [.ro (List.map Core.ds a0)] (.ow (some 4) (List.map Core.ds r))) := (l_toCoreS_all n).1
theorem l_toCoreS_l2_ok (n : Nat) : (∀ (a0 : List Core) (p1_0 : List Core) (p1_1 : Int) (r : (List Core)), l_toCoreS_l2 n a0 p1_0 p1_1 = some r → posF Tryd.prog Tryd.f38 [1, 1, 0, 1, 0] (.ow (some 4) (List.map Core.ds r)) ⟨[(0, .ro (List.map Core.ds a0)), (3, .own 1000001000), (4, .int .i64 p1_1)], [(1000001000, some ⟨List.map Core.ds p1_0, some 4, 0⟩)], []⟩) := (l_toCoreS_all n).2.1
theorem l_toCore_ok (n : Nat) : (∀ (a0 : Core) (r : Core), l_toCore n a0 = some r → AC Tryd.prog 27 [.agg (Core.avs a0)] (.agg (Core.rv r))) := (l_toCoreS_all n).2.2

theorem l_toReport_ok (a0 : Report) (r : Report) (h : l_toReport a0 = some r) : AC Tryd.prog 12 [.agg (Report.avs a0)] (.agg (Report.rv r)) := by
  unfold l_toReport at h
  refine ac_fn mixed Tryd.func12 rfl rfl rfl (by kernel_rfl) (by kernel_rfl) ?_
  try simp only [go_sem]
  replace h := bindE h
  obtain ⟨v3002, hv3002, h⟩ := h
  refine call_i (l_toCore_ok fuel _ _ hv3002) ?_
  try simp only [go_sem]
  replace h := bindE h
  obtain ⟨v4002, hv4002, h⟩ := h
  refine call_i (l_toInt64S_ok _ _ hv4002) ?_
  try simp only [go_sem]
  replace h := bindE h
  obtain ⟨v5002, hv5002, h⟩ := h
  refine call_i (l_toInt64S_ok _ _ hv5002) ?_
  try simp only [go_sem]
  replace h := Option.some.inj h
  obtain rfl := h
  simp only [go_sem]
theorem i_ReportLines_ok (a0 : Report) (r : (List ByteArray)) (h : i_ReportLines a0 = some r) : AG Tryd.prog 13 [.agg [.int .i64 a0.result.kind, .int .i64 a0.result.value, .ro (List.map i64D a0.result.data), .ro (List.map Core.ds a0.result.kids), .ro (List.map i64D a0.interactions), .ro (List.map i64D a0.steps), .int .i64 a0.peak, .int .i64 a0.rounds, .int .i64 a0.entered]] [] [] (.own 1501) [(1501, ⟨List.map strD r, some 1, 0⟩)] [] := by
  unfold i_ReportLines at h
  refine ag_fn mixed Tryd.func13 rfl rfl rfl (by kernel_rfl) (by kernel_rfl) ?_
  try simp only [go_sem]
  refine draw_i [] .fin (by kernel_rfl) ?_
  try simp only [go_sem]
  replace h := bindE h
  obtain ⟨v2002, hv2002, h⟩ := h
  refine call_i (i_CoreText_ok _ _ hv2002) ?_
  try simp only [go_sem]
  replace h := bindE h
  obtain ⟨v2003, hv2003, h⟩ := h
  have hq_ := sapp_some hv2003
  obtain ⟨hv2003a, hv2003b⟩ := hq_
  refine and_i hv2003a ?_
  subst hv2003b
  try simp only [go_sem]
  replace h := bindE h
  obtain ⟨v2006, hv2006, h⟩ := h
  refine call_i (i_decimals_ok _ _ hv2006) ?_
  try simp only [go_sem]
  replace h := bindE h
  obtain ⟨v2007, hv2007, h⟩ := h
  have hq_ := sapp_some hv2007
  obtain ⟨hv2007a, hv2007b⟩ := hq_
  refine and_i hv2007a ?_
  subst hv2007b
  try simp only [go_sem]
  replace h := bindE h
  obtain ⟨v2010, hv2010, h⟩ := h
  refine call_i (i_decimals_ok _ _ hv2010) ?_
  try simp only [go_sem]
  replace h := bindE h
  obtain ⟨v2011, hv2011, h⟩ := h
  have hq_ := sapp_some hv2011
  obtain ⟨hv2011a, hv2011b⟩ := hq_
  refine and_i hv2011a ?_
  subst hv2011b
  try simp only [go_sem]
  replace h := bindE h
  obtain ⟨v2014, hv2014, h⟩ := h
  refine call_i (i_Decimal_ok _ _ hv2014) ?_
  try simp only [go_sem]
  replace h := bindE h
  obtain ⟨v2015, hv2015, h⟩ := h
  have hq_ := sapp_some hv2015
  obtain ⟨hv2015a, hv2015b⟩ := hq_
  refine and_i hv2015a ?_
  subst hv2015b
  try simp only [go_sem]
  replace h := bindE h
  obtain ⟨v2018, hv2018, h⟩ := h
  refine call_i (i_Decimal_ok _ _ hv2018) ?_
  try simp only [go_sem]
  replace h := bindE h
  obtain ⟨v2019, hv2019, h⟩ := h
  have hq_ := sapp_some hv2019
  obtain ⟨hv2019a, hv2019b⟩ := hq_
  refine and_i hv2019a ?_
  subst hv2019b
  try simp only [go_sem]
  replace h := bindE h
  obtain ⟨v2022, hv2022, h⟩ := h
  refine call_i (i_Decimal_ok _ _ hv2022) ?_
  try simp only [go_sem]
  replace h := bindE h
  obtain ⟨v2023, hv2023, h⟩ := h
  have hq_ := sapp_some hv2023
  obtain ⟨hv2023a, hv2023b⟩ := hq_
  refine and_i hv2023a ?_
  subst hv2023b
  try simp only [go_sem]
  refine seq_go ?_
  try simp only [go_sem]
  replace h := Option.some.inj h
  obtain rfl := h
  refine ret_i (.lit 0 2000000000 2024 6 1 [] _ _ (by (first | rfl | (simp only [go_sem]; rfl))) (by simp only [go_sem]; rfl) (by (first | rfl | (simp only [go_sem]; rfl))) (by (first | rfl | (simp only [go_sem]; rfl))) (by decide) (by decide) (by simp only [go_sem]) (.done _)) [(1501, 2000000000)] [] ?_
  simp only [go_sem]
  all_goals try rfl
theorem l_eqStringS_l1_all (n : Nat) : (∀ (a0 : List ByteArray) (a1 : List ByteArray) (p0_0 : Int) (r : Bool), l_eqStringS_l1 n a0 a1 p0_0 = some r → posF Tryd.prog Tryd.f14 [1, 1, 0, 1, 0] (.bool r) ⟨[(0, .ro (List.map strD a0)), (1, .ro (List.map strD a1)), (5, .int .i64 p0_0)], [], []⟩) := by
  induction n with
  | zero => exact ((fun _ _ _ _ h => by rw [l_eqStringS_l1] at h; cases h))
  | succ n ih =>
    have ih0 := ih
    · intro a0 a1 p0_0 r h
      rw [l_eqStringS_l1] at h
      refine posF_of rfl rfl ?_
      try simp only [go_sem]
      refine loop_i ?_
      try simp only [go_sem]
      refine cond_i (fun hb2 => ?_) (fun hb2 => ?_)
      · replace h := ifT (c := (decide (p0_0 < ((List.length a0 : Nat) : Int)))) hb2 h
        try simp only [go_sem]
        refine seq_go ?_
        try simp only [go_sem]
        refine draw_i [] .fin (by kernel_rfl) ?_
        try simp only [go_sem]
        replace h := bindE h
        obtain ⟨v7002, hv7002, h⟩ := h
        refine idx_m hv7002 rfl ?_
        try simp only [go_sem]
        replace h := bindE h
        obtain ⟨v7006, hv7006, h⟩ := h
        refine idx_m hv7006 rfl ?_
        try simp only [go_sem]
        refine seq_go ?_
        try simp only [go_sem]
        refine cond_i (fun hb3 => ?_) (fun hb3 => ?_)
        · replace h := ifT (c := (!sameStr v7002 v7006)) hb3 h
          try simp only [go_sem]
          replace h := Option.some.inj h
          obtain rfl := h
          simp only [go_sem]
        · replace h := ifF (c := (!sameStr v7002 v7006)) hb3 h
          try simp only [go_sem]
          refine seq_go ?_
          try simp only [go_sem]
          have hj := posF_to rfl rfl (ih0 a0 a1 (IntKind.i64.wrap (p0_0 + 1)) _ h)
          refine lp_to hj (.one ⟨_, .done _, [], [], ?_⟩)
          clear hj
          try simp only [go_sem]
      · replace h := ifF (c := (decide (p0_0 < ((List.length a0 : Nat) : Int)))) hb2 h
        try simp only [go_sem]
        refine seq_go ?_
        try simp only [go_sem]
        replace h := Option.some.inj h
        obtain rfl := h
        simp only [go_sem]
theorem l_eqStringS_l1_ok (n : Nat) : (∀ (a0 : List ByteArray) (a1 : List ByteArray) (p0_0 : Int) (r : Bool), l_eqStringS_l1 n a0 a1 p0_0 = some r → posF Tryd.prog Tryd.f14 [1, 1, 0, 1, 0] (.bool r) ⟨[(0, .ro (List.map strD a0)), (1, .ro (List.map strD a1)), (5, .int .i64 p0_0)], [], []⟩) := (l_eqStringS_l1_all n)

theorem l_eqStringS_ok (a0 : List ByteArray) (a1 : List ByteArray) (r : Bool) (h : l_eqStringS a0 a1 = some r) : AC Tryd.prog 14 [.ro (List.map strD a0), .ro (List.map strD a1)] (.bool r) := by
  unfold l_eqStringS at h
  refine ac_fn mixed Tryd.func14 rfl rfl rfl (by kernel_rfl) (by kernel_rfl) ?_
  try simp only [go_sem]
  refine cond_i (fun hb1 => ?_) (fun hb1 => ?_)
  · replace h := ifT (c := (!decide (((List.length a0 : Nat) : Int) = ((List.length a1 : Nat) : Int)))) hb1 h
    try simp only [go_sem]
    replace h := Option.some.inj h
    obtain rfl := h
    simp only [go_sem]
  · replace h := ifF (c := (!decide (((List.length a0 : Nat) : Int) = ((List.length a1 : Nat) : Int)))) hb1 h
    try simp only [go_sem]
    refine seq_go ?_
    try simp only [go_sem]
    have hj := posF_to rfl rfl (l_eqStringS_l1_ok fuel a0 a1 0 _ h)
    refine loop_to hj (.one ⟨_, .done _, [], [], ?_⟩)
    clear hj
    try simp only [go_sem]
theorem l_eqCoreS_all (n : Nat) : (∀ (a0 : List Core) (a1 : List Core) (r : Bool), l_eqCoreS n a0 a1 = some r → AC Tryd.prog 42 [.ro (List.map Core.ds a0), .ro (List.map Core.ds a1)] (.bool r)) ∧
    (∀ (a0 : List Core) (a1 : List Core) (p0_0 : Int) (r : Bool), l_eqCoreS_l1 n a0 a1 p0_0 = some r → posF Tryd.prog Tryd.f42 [1, 1, 0, 1, 0] (.bool r) ⟨[(0, .ro (List.map Core.ds a0)), (1, .ro (List.map Core.ds a1)), (5, .int .i64 p0_0)], [], []⟩) ∧
    (∀ (a0 : Core) (a1 : Core) (r : Bool), l_eqCore n a0 a1 = some r → AC Tryd.prog 30 [.agg (Core.avs a0), .agg (Core.avs a1)] (.bool r)) := by
  induction n with
  | zero => exact ⟨(fun _ _ _ h => by rw [l_eqCoreS] at h; cases h), (fun _ _ _ _ h => by rw [l_eqCoreS_l1] at h; cases h), (fun _ _ _ h => by rw [l_eqCore] at h; cases h)⟩
  | succ n ih =>
    obtain ⟨ih0, ih1, ih2⟩ := ih
    refine ⟨?_, ?_, ?_⟩
    · intro a0 a1 r h
      rw [l_eqCoreS] at h
      refine ac_fn mixed Tryd.func42 rfl rfl rfl (by kernel_rfl) (by kernel_rfl) ?_
      try simp only [go_sem]
      refine cond_i (fun hb1 => ?_) (fun hb1 => ?_)
      · replace h := ifT (c := (!decide (((List.length a0 : Nat) : Int) = ((List.length a1 : Nat) : Int)))) hb1 h
        try simp only [go_sem]
        replace h := Option.some.inj h
        obtain rfl := h
        simp only [go_sem]
      · replace h := ifF (c := (!decide (((List.length a0 : Nat) : Int) = ((List.length a1 : Nat) : Int)))) hb1 h
        try simp only [go_sem]
        refine seq_go ?_
        try simp only [go_sem]
        have hj := posF_to rfl rfl (ih1 a0 a1 0 _ h)
        refine loop_to hj (.one ⟨_, .done _, [], [], ?_⟩)
        clear hj
        try simp only [go_sem]
    · intro a0 a1 p0_0 r h
      rw [l_eqCoreS_l1] at h
      refine posF_of rfl rfl ?_
      try simp only [go_sem]
      refine loop_i ?_
      try simp only [go_sem]
      refine cond_i (fun hb2 => ?_) (fun hb2 => ?_)
      · replace h := ifT (c := (decide (p0_0 < ((List.length a0 : Nat) : Int)))) hb2 h
        try simp only [go_sem]
        refine seq_go ?_
        try simp only [go_sem]
        refine draw_i [] .fin (by kernel_rfl) ?_
        try simp only [go_sem]
        replace h := bindE h
        obtain ⟨v7002, hv7002, h⟩ := h
        refine idx_m hv7002 (Core.ds_len _) ?_
        try simp only [go_sem]
        replace h := bindE h
        obtain ⟨v7006, hv7006, h⟩ := h
        refine idx_m hv7006 (Core.ds_len _) ?_
        try simp only [go_sem]
        replace h := bindE h
        obtain ⟨v7008, hv7008, h⟩ := h
        refine call_i (ih2 _ _ _ hv7008) ?_
        try simp only [go_sem]
        refine seq_go ?_
        try simp only [go_sem]
        refine cond_i (fun hb3 => ?_) (fun hb3 => ?_)
        · replace h := ifT (c := (!v7008)) hb3 h
          try simp only [go_sem]
          replace h := Option.some.inj h
          obtain rfl := h
          simp only [go_sem]
        · replace h := ifF (c := (!v7008)) hb3 h
          try simp only [go_sem]
          refine seq_go ?_
          try simp only [go_sem]
          have hj := posF_to rfl rfl (ih1 a0 a1 (IntKind.i64.wrap (p0_0 + 1)) _ h)
          refine lp_to hj (.one ⟨_, .done _, [], [], ?_⟩)
          clear hj
          try simp only [go_sem]
      · replace h := ifF (c := (decide (p0_0 < ((List.length a0 : Nat) : Int)))) hb2 h
        try simp only [go_sem]
        refine seq_go ?_
        try simp only [go_sem]
        replace h := Option.some.inj h
        obtain rfl := h
        simp only [go_sem]
    · intro a0 a1 r h
      rw [l_eqCore] at h
      refine ac_fn mixed Tryd.func30 rfl rfl rfl (by kernel_rfl) (by kernel_rfl) ?_
      try simp only [go_sem]
      refine cond_i (fun hb1 => ?_) (fun hb1 => ?_)
      · replace h := ifT (c := (!decide (a0.kind = a1.kind))) hb1 h
        try simp only [go_sem]
        replace h := Option.some.inj h
        obtain rfl := h
        simp only [go_sem]
      · replace h := ifF (c := (!decide (a0.kind = a1.kind))) hb1 h
        try simp only [go_sem]
        refine seq_go ?_
        try simp only [go_sem]
        refine cond_i (fun hb2 => ?_) (fun hb2 => ?_)
        · replace h := ifT (c := (!decide (a0.value = a1.value))) hb2 h
          try simp only [go_sem]
          replace h := Option.some.inj h
          obtain rfl := h
          simp only [go_sem]
        · replace h := ifF (c := (!decide (a0.value = a1.value))) hb2 h
          try simp only [go_sem]
          refine seq_go ?_
          try simp only [go_sem]
          replace h := bindE h
          obtain ⟨v6004, hv6004, h⟩ := h
          refine call_i (l_eqInt64S_ok _ _ _ hv6004) ?_
          try simp only [go_sem]
          refine cond_i (fun hb3 => ?_) (fun hb3 => ?_)
          · replace h := ifT (c := (!v6004)) hb3 h
            try simp only [go_sem]
            replace h := Option.some.inj h
            obtain rfl := h
            simp only [go_sem]
          · replace h := ifF (c := (!v6004)) hb3 h
            try simp only [go_sem]
            refine seq_go ?_
            try simp only [go_sem]
            replace h := bindE h
            obtain ⟨v8004, hv8004, h⟩ := h
            refine call_i (ih0 _ _ _ hv8004) ?_
            try simp only [go_sem]
            refine cond_i (fun hb4 => ?_) (fun hb4 => ?_)
            · replace h := ifT (c := (!v8004)) hb4 h
              try simp only [go_sem]
              replace h := Option.some.inj h
              obtain rfl := h
              simp only [go_sem]
            · replace h := ifF (c := (!v8004)) hb4 h
              try simp only [go_sem]
              refine seq_go ?_
              try simp only [go_sem]
              replace h := Option.some.inj h
              obtain rfl := h
              simp only [go_sem]
theorem l_eqCoreS_ok (n : Nat) : (∀ (a0 : List Core) (a1 : List Core) (r : Bool), l_eqCoreS n a0 a1 = some r → AC Tryd.prog 42 [.ro (List.map Core.ds a0), .ro (List.map Core.ds a1)] (.bool r)) := (l_eqCoreS_all n).1
theorem l_eqCoreS_l1_ok (n : Nat) : (∀ (a0 : List Core) (a1 : List Core) (p0_0 : Int) (r : Bool), l_eqCoreS_l1 n a0 a1 p0_0 = some r → posF Tryd.prog Tryd.f42 [1, 1, 0, 1, 0] (.bool r) ⟨[(0, .ro (List.map Core.ds a0)), (1, .ro (List.map Core.ds a1)), (5, .int .i64 p0_0)], [], []⟩) := (l_eqCoreS_all n).2.1
theorem l_eqCore_ok (n : Nat) : (∀ (a0 : Core) (a1 : Core) (r : Bool), l_eqCore n a0 a1 = some r → AC Tryd.prog 30 [.agg (Core.avs a0), .agg (Core.avs a1)] (.bool r)) := (l_eqCoreS_all n).2.2

theorem l_eqReport_ok (a0 : Report) (a1 : Report) (r : Bool) (h : l_eqReport a0 a1 = some r) : AC Tryd.prog 15 [.agg (Report.avs a0), .agg (Report.avs a1)] (.bool r) := by
  unfold l_eqReport at h
  refine ac_fn mixed Tryd.func15 rfl rfl rfl (by kernel_rfl) (by kernel_rfl) ?_
  try simp only [go_sem]
  replace h := bindE h
  obtain ⟨v2004, hv2004, h⟩ := h
  refine call_i (l_eqCore_ok fuel _ _ _ hv2004) ?_
  try simp only [go_sem]
  refine cond_i (fun hb1 => ?_) (fun hb1 => ?_)
  · replace h := ifT (c := (!v2004)) hb1 h
    try simp only [go_sem]
    replace h := Option.some.inj h
    obtain rfl := h
    simp only [go_sem]
  · replace h := ifF (c := (!v2004)) hb1 h
    try simp only [go_sem]
    refine seq_go ?_
    try simp only [go_sem]
    replace h := bindE h
    obtain ⟨v4004, hv4004, h⟩ := h
    refine call_i (l_eqInt64S_ok _ _ _ hv4004) ?_
    try simp only [go_sem]
    refine cond_i (fun hb2 => ?_) (fun hb2 => ?_)
    · replace h := ifT (c := (!v4004)) hb2 h
      try simp only [go_sem]
      replace h := Option.some.inj h
      obtain rfl := h
      simp only [go_sem]
    · replace h := ifF (c := (!v4004)) hb2 h
      try simp only [go_sem]
      refine seq_go ?_
      try simp only [go_sem]
      replace h := bindE h
      obtain ⟨v6004, hv6004, h⟩ := h
      refine call_i (l_eqInt64S_ok _ _ _ hv6004) ?_
      try simp only [go_sem]
      refine cond_i (fun hb3 => ?_) (fun hb3 => ?_)
      · replace h := ifT (c := (!v6004)) hb3 h
        try simp only [go_sem]
        replace h := Option.some.inj h
        obtain rfl := h
        simp only [go_sem]
      · replace h := ifF (c := (!v6004)) hb3 h
        try simp only [go_sem]
        refine seq_go ?_
        try simp only [go_sem]
        refine cond_i (fun hb4 => ?_) (fun hb4 => ?_)
        · replace h := ifT (c := (!decide (a0.peak = a1.peak))) hb4 h
          try simp only [go_sem]
          replace h := Option.some.inj h
          obtain rfl := h
          simp only [go_sem]
        · replace h := ifF (c := (!decide (a0.peak = a1.peak))) hb4 h
          try simp only [go_sem]
          refine seq_go ?_
          try simp only [go_sem]
          refine cond_i (fun hb5 => ?_) (fun hb5 => ?_)
          · replace h := ifT (c := (!decide (a0.rounds = a1.rounds))) hb5 h
            try simp only [go_sem]
            replace h := Option.some.inj h
            obtain rfl := h
            simp only [go_sem]
          · replace h := ifF (c := (!decide (a0.rounds = a1.rounds))) hb5 h
            try simp only [go_sem]
            refine seq_go ?_
            try simp only [go_sem]
            refine cond_i (fun hb6 => ?_) (fun hb6 => ?_)
            · replace h := ifT (c := (!decide (a0.entered = a1.entered))) hb6 h
              try simp only [go_sem]
              replace h := Option.some.inj h
              obtain rfl := h
              simp only [go_sem]
            · replace h := ifF (c := (!decide (a0.entered = a1.entered))) hb6 h
              try simp only [go_sem]
              refine seq_go ?_
              try simp only [go_sem]
              replace h := Option.some.inj h
              obtain rfl := h
              simp only [go_sem]
theorem l_markInt64S_l1_all (n : Nat) : (∀ (p0_0 : List Int) (p0_1 : Int) (p0_2 : Int) (z1 : Option Nat) (r : Int × (List Int)), l_markInt64S_l1 n p0_0 p0_1 p0_2 = some r → posG Tryd.prog Tryd.f32 [1, 0, 1, 0] (.int .i64 r.1) [(1, ⟨List.map i64D r.2, z1, 0⟩)] [] ⟨[(0, .own 1), (1, .int .i64 p0_1), (5, .int .i64 p0_2)], [(1, some ⟨List.map i64D p0_0, z1, 0⟩)], []⟩) := by
  induction n with
  | zero => exact ((fun _ _ _ _ _ h => by rw [l_markInt64S_l1] at h; cases h))
  | succ n ih =>
    have ih0 := ih
    · intro p0_0 p0_1 p0_2 z1 r h
      rw [l_markInt64S_l1] at h
      refine posG_of rfl rfl ?_
      try simp only [go_sem]
      refine loop_i ?_
      try simp only [go_sem]
      refine cond_i (fun hb1 => ?_) (fun hb1 => ?_)
      · replace h := ifT (c := (decide (p0_2 < ((List.length p0_0 : Nat) : Int)))) hb1 h
        try simp only [go_sem]
        refine seq_go ?_
        try simp only [go_sem]
        replace h := bindE h
        obtain ⟨v5003, hv5003, h⟩ := h
        refine idx_m hv5003 rfl ?_
        try simp only [go_sem]
        replace h := bindE h
        obtain ⟨v5004_8, hv5004_8, h⟩ := h
        refine opt_i (row_m hv5003) ?_
        try simp only [go_sem]
        refine row_i (List.map i64D v5004_8) (by rw [← set1_some hv5004_8]; simp only [List.map_set, go_sem, slD]) ?_
        try simp only [go_sem]
        refine seq_go ?_
        try simp only [go_sem]
        have hj := posG_to rfl rfl (ih0 v5004_8 (IntKind.i64.wrap (p0_1 + 1)) (IntKind.i64.wrap (p0_2 + 1)) z1 _ h)
        refine lp_to hj (.one ⟨_, .done _, [(1, 1)], [], ?_⟩)
        clear hj
        try simp only [go_sem]
      · replace h := ifF (c := (decide (p0_2 < ((List.length p0_0 : Nat) : Int)))) hb1 h
        try simp only [go_sem]
        refine seq_go ?_
        try simp only [go_sem]
        replace h := Option.some.inj h
        obtain rfl := h
        refine ret_i (.done _) [(1, 1)] [] ?_
        simp only [go_sem]
theorem l_markInt64S_l1_ok (n : Nat) : (∀ (p0_0 : List Int) (p0_1 : Int) (p0_2 : Int) (z1 : Option Nat) (r : Int × (List Int)), l_markInt64S_l1 n p0_0 p0_1 p0_2 = some r → posG Tryd.prog Tryd.f32 [1, 0, 1, 0] (.int .i64 r.1) [(1, ⟨List.map i64D r.2, z1, 0⟩)] [] ⟨[(0, .own 1), (1, .int .i64 p0_1), (5, .int .i64 p0_2)], [(1, some ⟨List.map i64D p0_0, z1, 0⟩)], []⟩) := (l_markInt64S_l1_all n)

theorem l_markInt64S_ok (a0 : List Int) (a1 : Int) (z1 : Option Nat) (r : Int × (List Int)) (h : l_markInt64S a0 a1 = some r) : AG Tryd.prog 32 [.own 1, .int .i64 a1] [(1, ⟨List.map i64D a0, z1, 0⟩)] [] (.int .i64 r.1) [(1, ⟨List.map i64D r.2, z1, 0⟩)] [] := by
  unfold l_markInt64S at h
  refine ag_fn mixed Tryd.func32 rfl rfl rfl (by kernel_rfl) (by kernel_rfl) ?_
  try simp only [go_sem]
  have hj := posG_to rfl rfl (l_markInt64S_l1_ok fuel a0 a1 0 z1 _ h)
  refine loop_to hj (.one ⟨_, .done _, [(1, 1)], [], ?_⟩)
  clear hj
  try simp only [go_sem]
theorem l_markCoreS_all (n : Nat) : (∀ (a0 : List Core) (a1 : Int) (z1 : Option Nat) (r : Int × (List Core)), l_markCoreS n a0 a1 = some r → AG Tryd.prog 43 [.own 1, .int .i64 a1] [(1, ⟨List.map Core.ds a0, z1, 0⟩)] [] (.int .i64 r.1) [(1, ⟨List.map Core.ds r.2, z1, 0⟩)] []) ∧
    (∀ (p0_0 : List Core) (p0_1 : Int) (p0_2 : Int) (z1 : Option Nat) (r : Int × (List Core)), l_markCoreS_l1 n p0_0 p0_1 p0_2 = some r → posG Tryd.prog Tryd.f43 [1, 0, 1, 0] (.int .i64 r.1) [(1, ⟨List.map Core.ds r.2, z1, 0⟩)] [] ⟨[(0, .own 1), (1, .int .i64 p0_1), (5, .int .i64 p0_2)], [(1, some ⟨List.map Core.ds p0_0, z1, 0⟩)], []⟩) := by
  induction n with
  | zero => exact ⟨(fun _ _ _ _ h => by rw [l_markCoreS] at h; cases h), (fun _ _ _ _ _ h => by rw [l_markCoreS_l1] at h; cases h)⟩
  | succ n ih =>
    obtain ⟨ih0, ih1⟩ := ih
    refine ⟨?_, ?_⟩
    · intro a0 a1 z1 r h
      rw [l_markCoreS] at h
      refine ag_fn mixed Tryd.func43 rfl rfl rfl (by kernel_rfl) (by kernel_rfl) ?_
      try simp only [go_sem]
      have hj := posG_to rfl rfl (ih1 a0 a1 0 z1 _ h)
      refine loop_to hj (.one ⟨_, .done _, [(1, 1)], [], ?_⟩)
      clear hj
      try simp only [go_sem]
    · intro p0_0 p0_1 p0_2 z1 r h
      rw [l_markCoreS_l1] at h
      refine posG_of rfl rfl ?_
      try simp only [go_sem]
      refine loop_i ?_
      try simp only [go_sem]
      refine cond_i (fun hb1 => ?_) (fun hb1 => ?_)
      · replace h := ifT (c := (decide (p0_2 < ((List.length p0_0 : Nat) : Int)))) hb1 h
        try simp only [go_sem]
        refine seq_go ?_
        try simp only [go_sem]
        replace h := bindE h
        obtain ⟨v5003, hv5003, h⟩ := h
        refine idx_m hv5003 (Core.ds_len _) ?_
        try simp only [go_sem]
        replace h := bindE h
        obtain ⟨v5005_29, hv5005_29, h⟩ := h
        refine opt_i (row_m hv5003) ?_
        try simp only [go_sem]
        refine row_i (List.map Core.ds v5005_29) (by rw [← set1_some hv5005_29]; simp only [List.map_set, go_sem, Core.ds_eq]) ?_
        try simp only [go_sem]
        replace h := bindE h
        obtain ⟨v7003, hv7003, h⟩ := h
        refine idx_m hv7003 (Core.ds_len _) ?_
        try simp only [go_sem]
        replace h := bindE h
        obtain ⟨v7005_30, hv7005_30, h⟩ := h
        refine opt_i (row_m hv7003) ?_
        try simp only [go_sem]
        refine row_i (List.map Core.ds v7005_30) (by rw [← set1_some hv7005_30]; simp only [List.map_set, go_sem, Core.ds_eq]) ?_
        try simp only [go_sem]
        replace h := bindE h
        obtain ⟨v9002, hv9002, h⟩ := h
        refine idx_m hv9002 (Core.ds_len _) ?_
        try simp only [go_sem]
        refine opt_i (row_m hv9002) ?_
        try simp only [go_sem]
        replace h := bindE h
        obtain ⟨v9006, hv9006, h⟩ := h
        replace h := bindE h
        obtain ⟨v9006_31, hv9006_31, h⟩ := h
        refine call_g ⟨[(3000144096, .sub 1 0 [(4, Int.toNat p0_2, 2)], none)], [(1, 3000144096)], [], [], [], true⟩ (by kernel_rfl) (l_markInt64S_ok _ _ none _ hv9006) (by kernel_rfl) ?_
        try simp only [go_sem]
        refine opt_i (getP_1 (r := List.map i64D v9002.data) (row_m hv9002) (Core.ds_len _) (by simp only [go_sem, Core.ds_eq])) ?_
        try simp only [go_sem]
        refine row_i ((List.map Core.ds v7005_30).set (Int.toNat p0_2) [.int .i64 v9002.kind, .int .i64 v9002.value, .gone, .sl (List.map Core.ds v9002.kids)]) ((putR_1 (row_m hv9002) (d' := .sl (List.map i64D v9002.data)) (by simp only [go_sem, Core.ds_eq])).trans (by simp only [go_sem, Core.ds_eq])) ?_
        try simp only [go_sem]
        refine and_i (getC_1 (set_at (row_m hv9002)) rfl rfl) ?_
        try simp only [go_sem]
        refine row_i (List.map Core.ds v9006_31) (((putR_1 (set_at (row_m hv9002)) (d' := .gone) rfl).trans (List.set_set ..)).trans (by rw [← set1_some hv9006_31]; simp only [List.map_set, go_sem, Core.ds_eq])) ?_
        try simp only [go_sem]
        replace h := bindE h
        obtain ⟨v10002, hv10002, h⟩ := h
        refine idx_m hv10002 (Core.ds_len _) ?_
        try simp only [go_sem]
        refine opt_i (row_m hv10002) ?_
        try simp only [go_sem]
        replace h := bindE h
        obtain ⟨v10006, hv10006, h⟩ := h
        replace h := bindE h
        obtain ⟨v10006_32, hv10006_32, h⟩ := h
        refine call_g ⟨[(3000160096, .sub 1 0 [(4, Int.toNat p0_2, 3)], none)], [(1, 3000160096)], [], [], [], true⟩ (by kernel_rfl) (ih0 _ _ none _ hv10006) (by kernel_rfl) ?_
        try simp only [go_sem]
        refine opt_i (getP_1 (r := List.map Core.ds v10002.kids) (row_m hv10002) (Core.ds_len _) (by simp only [go_sem, Core.ds_eq])) ?_
        try simp only [go_sem]
        refine row_i ((List.map Core.ds v9006_31).set (Int.toNat p0_2) [.int .i64 v10002.kind, .int .i64 v10002.value, .sl (List.map i64D v10002.data), .gone]) ((putR_1 (row_m hv10002) (d' := .sl (List.map Core.ds v10002.kids)) (by simp only [go_sem, Core.ds_eq])).trans (by simp only [go_sem, Core.ds_eq])) ?_
        try simp only [go_sem]
        refine and_i (getC_1 (set_at (row_m hv10002)) rfl rfl) ?_
        try simp only [go_sem]
        refine row_i (List.map Core.ds v10006_32) (((putR_1 (set_at (row_m hv10002)) (d' := .gone) rfl).trans (List.set_set ..)).trans (by rw [← set1_some hv10006_32]; simp only [List.map_set, go_sem, Core.ds_eq])) ?_
        try simp only [go_sem]
        refine seq_go ?_
        try simp only [go_sem]
        have hj := posG_to rfl rfl (ih1 v10006_32 v10006.1 (IntKind.i64.wrap (p0_2 + 1)) z1 _ h)
        refine lp_to hj (.one ⟨_, .done _, [(1, 1)], [], ?_⟩)
        clear hj
        try simp only [go_sem]
      · replace h := ifF (c := (decide (p0_2 < ((List.length p0_0 : Nat) : Int)))) hb1 h
        try simp only [go_sem]
        refine seq_go ?_
        try simp only [go_sem]
        replace h := Option.some.inj h
        obtain rfl := h
        refine ret_i (.done _) [(1, 1)] [] ?_
        simp only [go_sem]
theorem l_markCoreS_ok (n : Nat) : (∀ (a0 : List Core) (a1 : Int) (z1 : Option Nat) (r : Int × (List Core)), l_markCoreS n a0 a1 = some r → AG Tryd.prog 43 [.own 1, .int .i64 a1] [(1, ⟨List.map Core.ds a0, z1, 0⟩)] [] (.int .i64 r.1) [(1, ⟨List.map Core.ds r.2, z1, 0⟩)] []) := (l_markCoreS_all n).1
theorem l_markCoreS_l1_ok (n : Nat) : (∀ (p0_0 : List Core) (p0_1 : Int) (p0_2 : Int) (z1 : Option Nat) (r : Int × (List Core)), l_markCoreS_l1 n p0_0 p0_1 p0_2 = some r → posG Tryd.prog Tryd.f43 [1, 0, 1, 0] (.int .i64 r.1) [(1, ⟨List.map Core.ds r.2, z1, 0⟩)] [] ⟨[(0, .own 1), (1, .int .i64 p0_1), (5, .int .i64 p0_2)], [(1, some ⟨List.map Core.ds p0_0, z1, 0⟩)], []⟩) := (l_markCoreS_all n).2

theorem l_markCore_ok (a0 : Core) (a1 : Int) (z1 : Option Nat) (z2 : Option Nat) (r : Int × (List Int) × (List Core)) (h : l_markCore a0 a1 = some r) : AG Tryd.prog 31 [.agg [.int .i64 a0.kind, .int .i64 a0.value, .own 1, .own 2], .int .i64 a1] [(1, ⟨List.map i64D a0.data, z1, 0⟩), (2, ⟨List.map Core.ds a0.kids, z2, 0⟩)] [] (.int .i64 r.1) [(1, ⟨List.map i64D r.2.1, z1, 0⟩), (2, ⟨List.map Core.ds r.2.2, z2, 0⟩)] [] := by
  unfold l_markCore at h
  refine ag_fn mixed Tryd.func31 rfl rfl rfl (by kernel_rfl) (by kernel_rfl) ?_
  try simp only [go_sem]
  replace h := bindE h
  obtain ⟨v2003, hv2003, h⟩ := h
  refine call_g ⟨[], [(1, 1)], [], [], [], true⟩ (by kernel_rfl) (l_markInt64S_ok _ _ z1 _ hv2003) (by kernel_rfl) ?_
  try simp only [go_sem]
  replace h := bindE h
  obtain ⟨v3003, hv3003, h⟩ := h
  refine call_g ⟨[], [(1, 2)], [], [], [], true⟩ (by kernel_rfl) (l_markCoreS_ok fuel _ _ z2 _ hv3003) (by kernel_rfl) ?_
  try simp only [go_sem]
  replace h := Option.some.inj h
  obtain rfl := h
  refine ret_i (.done _) [(1, 1), (2, 2)] [] ?_
  simp only [go_sem]
theorem l_markReport_ok (a0 : Report) (a1 : Int) (z1 : Option Nat) (z2 : Option Nat) (z3 : Option Nat) (z4 : Option Nat) (r : Int × (List Int) × (List Core) × (List Int) × (List Int)) (h : l_markReport a0 a1 = some r) : AG Tryd.prog 16 [.agg [.int .i64 a0.result.kind, .int .i64 a0.result.value, .own 1, .own 2, .own 3, .own 4, .int .i64 a0.peak, .int .i64 a0.rounds, .int .i64 a0.entered], .int .i64 a1] [(1, ⟨List.map i64D a0.result.data, z1, 0⟩), (2, ⟨List.map Core.ds a0.result.kids, z2, 0⟩), (3, ⟨List.map i64D a0.interactions, z3, 0⟩), (4, ⟨List.map i64D a0.steps, z4, 0⟩)] [] (.int .i64 r.1) [(1, ⟨List.map i64D r.2.1, z1, 0⟩), (2, ⟨List.map Core.ds r.2.2.1, z2, 0⟩), (3, ⟨List.map i64D r.2.2.2.1, z3, 0⟩), (4, ⟨List.map i64D r.2.2.2.2, z4, 0⟩)] [] := by
  unfold l_markReport at h
  refine ag_fn mixed Tryd.func16 rfl rfl rfl (by kernel_rfl) (by kernel_rfl) ?_
  try simp only [go_sem]
  replace h := bindE h
  obtain ⟨v2003, hv2003, h⟩ := h
  refine call_g ⟨[], [(1, 1), (2, 2)], [], [], [], true⟩ (by kernel_rfl) (l_markCore_ok _ _ z1 z2 _ hv2003) (by kernel_rfl) ?_
  try simp only [go_sem]
  replace h := bindE h
  obtain ⟨v3003, hv3003, h⟩ := h
  refine call_g ⟨[], [(1, 3)], [], [], [], true⟩ (by kernel_rfl) (l_markInt64S_ok _ _ z3 _ hv3003) (by kernel_rfl) ?_
  try simp only [go_sem]
  replace h := bindE h
  obtain ⟨v4003, hv4003, h⟩ := h
  refine call_g ⟨[], [(1, 4)], [], [], [], true⟩ (by kernel_rfl) (l_markInt64S_ok _ _ z4 _ hv4003) (by kernel_rfl) ?_
  try simp only [go_sem]
  replace h := Option.some.inj h
  obtain rfl := h
  refine ret_i (.done _) [(1, 1), (2, 2), (3, 3), (4, 4)] [] ?_
  simp only [go_sem]
theorem l_markText_l1_all (n : Nat) : (∀ (p0_0 : Int) (p0_1 : ByteArray) (r : ByteArray), l_markText_l1 n p0_0 p0_1 = some r → posF Tryd.prog Tryd.f33 [1, 1, 1, 0, 0] (.str r) ⟨[(0, .int .i64 p0_0), (3, .str p0_1)], [], []⟩) := by
  induction n with
  | zero => exact ((fun _ _ _ h => by rw [l_markText_l1] at h; cases h))
  | succ n ih =>
    have ih0 := ih
    · intro p0_0 p0_1 r h
      rw [l_markText_l1] at h
      refine posF_of rfl rfl ?_
      try simp only [go_sem]
      refine loop_i ?_
      try simp only [go_sem]
      refine cond_i (fun hb2 => ?_) (fun hb2 => ?_)
      · replace h := ifT (c := (decide (0 < p0_0))) hb2 h
        try simp only [go_sem]
        refine seq_go ?_
        try simp only [go_sem]
        refine and_i (by decide) ?_
        try simp only [go_sem]
        replace h := bindE h
        obtain ⟨v6005, hv6005, h⟩ := h
        have hq_ := strN_some hv6005
        obtain ⟨hv6005a, hv6005b⟩ := hq_
        refine str_i (ns := [(IntKind.u8.wrap (IntKind.i64.wrap (48 + (Int.tmod p0_0 10))))]) hv6005a ?_
        rw [hv6005b]
        try simp only [go_sem]
        replace h := bindE h
        obtain ⟨v6007, hv6007, h⟩ := h
        have hq_ := sapp_some hv6007
        obtain ⟨hv6007a, hv6007b⟩ := hq_
        refine and_i hv6007a ?_
        rw [hv6007b]
        try simp only [go_sem]
        refine and_i (by decide) ?_
        try simp only [go_sem]
        have hj := posF_to rfl rfl (ih0 (IntKind.i64.wrap (Int.tdiv p0_0 10)) v6007 _ h)
        refine lp_to hj (.one ⟨_, .done _, [], [], ?_⟩)
        clear hj
        try simp only [go_sem]
      · replace h := ifF (c := (decide (0 < p0_0))) hb2 h
        try simp only [go_sem]
        refine seq_go ?_
        try simp only [go_sem]
        replace h := bindE h
        obtain ⟨v8001, hv8001, h⟩ := h
        have hq_ := sapp_some hv8001
        obtain ⟨hv8001a, hv8001b⟩ := hq_
        refine and_i hv8001a ?_
        rw [hv8001b]
        try simp only [go_sem]
        replace h := Option.some.inj h
        obtain rfl := h
        simp only [go_sem]
theorem l_markText_l1_ok (n : Nat) : (∀ (p0_0 : Int) (p0_1 : ByteArray) (r : ByteArray), l_markText_l1 n p0_0 p0_1 = some r → posF Tryd.prog Tryd.f33 [1, 1, 1, 0, 0] (.str r) ⟨[(0, .int .i64 p0_0), (3, .str p0_1)], [], []⟩) := (l_markText_l1_all n)

theorem l_markText_ok (a0 : Int) (r : ByteArray) (h : l_markText a0 = some r) : AC Tryd.prog 33 [.int .i64 a0] (.str r) := by
  unfold l_markText at h
  refine ac_fn mixed Tryd.func33 rfl rfl rfl (by kernel_rfl) (by kernel_rfl) ?_
  try simp only [go_sem]
  refine cond_i (fun hb1 => ?_) (fun hb1 => ?_)
  · replace h := ifT (c := (decide (a0 ≤ 0))) hb1 h
    try simp only [go_sem]
    replace h := Option.some.inj h
    obtain rfl := h
    simp only [go_sem]
  · replace h := ifF (c := (decide (a0 ≤ 0))) hb1 h
    try simp only [go_sem]
    refine seq_go ?_
    try simp only [go_sem]
    have hj := posF_to rfl rfl (l_markText_l1_ok fuel a0 (ByteArray.mk #[]) _ h)
    refine loop_to hj (.one ⟨_, .done _, [], [], ?_⟩)
    clear hj
    try simp only [go_sem]
theorem l_markStringS_l1_all (n : Nat) : (∀ (p0_0 : List ByteArray) (p0_1 : Int) (p0_2 : Int) (z1 : Option Nat) (r : Int × (List ByteArray)), l_markStringS_l1 n p0_0 p0_1 p0_2 = some r → posG Tryd.prog Tryd.f17 [1, 0, 1, 0] (.int .i64 r.1) [(1, ⟨List.map strD r.2, z1, 0⟩)] [] ⟨[(0, .own 1), (1, .int .i64 p0_1), (5, .int .i64 p0_2)], [(1, some ⟨List.map strD p0_0, z1, 0⟩)], []⟩) := by
  induction n with
  | zero => exact ((fun _ _ _ _ _ h => by rw [l_markStringS_l1] at h; cases h))
  | succ n ih =>
    have ih0 := ih
    · intro p0_0 p0_1 p0_2 z1 r h
      rw [l_markStringS_l1] at h
      refine posG_of rfl rfl ?_
      try simp only [go_sem]
      refine loop_i ?_
      try simp only [go_sem]
      refine cond_i (fun hb1 => ?_) (fun hb1 => ?_)
      · replace h := ifT (c := (decide (p0_2 < ((List.length p0_0 : Nat) : Int)))) hb1 h
        try simp only [go_sem]
        refine seq_go ?_
        try simp only [go_sem]
        replace h := bindE h
        obtain ⟨v5003, hv5003, h⟩ := h
        refine call_i (l_markText_ok _ _ hv5003) ?_
        try simp only [go_sem]
        replace h := bindE h
        obtain ⟨v5004, hv5004, h⟩ := h
        refine idx_m hv5004 rfl ?_
        try simp only [go_sem]
        replace h := bindE h
        obtain ⟨v5005_8, hv5005_8, h⟩ := h
        refine opt_i (row_m hv5004) ?_
        try simp only [go_sem]
        refine row_i (List.map strD v5005_8) (by rw [← set1_some hv5005_8]; simp only [List.map_set, go_sem, slD]) ?_
        try simp only [go_sem]
        refine seq_go ?_
        try simp only [go_sem]
        have hj := posG_to rfl rfl (ih0 v5005_8 (IntKind.i64.wrap (p0_1 + 1)) (IntKind.i64.wrap (p0_2 + 1)) z1 _ h)
        refine lp_to hj (.one ⟨_, .done _, [(1, 1)], [], ?_⟩)
        clear hj
        try simp only [go_sem]
      · replace h := ifF (c := (decide (p0_2 < ((List.length p0_0 : Nat) : Int)))) hb1 h
        try simp only [go_sem]
        refine seq_go ?_
        try simp only [go_sem]
        replace h := Option.some.inj h
        obtain rfl := h
        refine ret_i (.done _) [(1, 1)] [] ?_
        simp only [go_sem]
theorem l_markStringS_l1_ok (n : Nat) : (∀ (p0_0 : List ByteArray) (p0_1 : Int) (p0_2 : Int) (z1 : Option Nat) (r : Int × (List ByteArray)), l_markStringS_l1 n p0_0 p0_1 p0_2 = some r → posG Tryd.prog Tryd.f17 [1, 0, 1, 0] (.int .i64 r.1) [(1, ⟨List.map strD r.2, z1, 0⟩)] [] ⟨[(0, .own 1), (1, .int .i64 p0_1), (5, .int .i64 p0_2)], [(1, some ⟨List.map strD p0_0, z1, 0⟩)], []⟩) := (l_markStringS_l1_all n)

theorem l_markStringS_ok (a0 : List ByteArray) (a1 : Int) (z1 : Option Nat) (r : Int × (List ByteArray)) (h : l_markStringS a0 a1 = some r) : AG Tryd.prog 17 [.own 1, .int .i64 a1] [(1, ⟨List.map strD a0, z1, 0⟩)] [] (.int .i64 r.1) [(1, ⟨List.map strD r.2, z1, 0⟩)] [] := by
  unfold l_markStringS at h
  refine ag_fn mixed Tryd.func17 rfl rfl rfl (by kernel_rfl) (by kernel_rfl) ?_
  try simp only [go_sem]
  have hj := posG_to rfl rfl (l_markStringS_l1_ok fuel a0 a1 0 z1 _ h)
  refine loop_to hj (.one ⟨_, .done _, [(1, 1)], [], ?_⟩)
  clear hj
  try simp only [go_sem]
theorem l_heldStringS_l1_all (n : Nat) : (∀ (a0 : List ByteArray) (p0_0 : Int) (p0_1 : Int) (r : Int), l_heldStringS_l1 n a0 p0_0 p0_1 = some r → posF Tryd.prog Tryd.f18 [1, 0, 1, 0] (.int .i64 r) ⟨[(0, .ro (List.map strD a0)), (1, .int .i64 p0_0), (5, .int .i64 p0_1)], [], []⟩) := by
  induction n with
  | zero => exact ((fun _ _ _ _ h => by rw [l_heldStringS_l1] at h; cases h))
  | succ n ih =>
    have ih0 := ih
    · intro a0 p0_0 p0_1 r h
      rw [l_heldStringS_l1] at h
      refine posF_of rfl rfl ?_
      try simp only [go_sem]
      refine loop_i ?_
      try simp only [go_sem]
      refine cond_i (fun hb1 => ?_) (fun hb1 => ?_)
      · replace h := ifT (c := (decide (p0_1 < ((List.length a0 : Nat) : Int)))) hb1 h
        try simp only [go_sem]
        refine seq_go ?_
        try simp only [go_sem]
        refine draw_i [] .fin (by kernel_rfl) ?_
        try simp only [go_sem]
        replace h := bindE h
        obtain ⟨v5002, hv5002, h⟩ := h
        refine idx_m hv5002 rfl ?_
        try simp only [go_sem]
        replace h := bindE h
        obtain ⟨v5005, hv5005, h⟩ := h
        refine call_i (l_markText_ok _ _ hv5005) ?_
        try simp only [go_sem]
        refine seq_go ?_
        try simp only [go_sem]
        refine cond_i (fun hb2 => ?_) (fun hb2 => ?_)
        · replace h := ifT (c := (!sameStr v5002 v5005)) hb2 h
          try simp only [go_sem]
          replace h := Option.some.inj h
          obtain rfl := h
          simp only [go_sem]
        · replace h := ifF (c := (!sameStr v5002 v5005)) hb2 h
          try simp only [go_sem]
          refine seq_go ?_
          try simp only [go_sem]
          refine seq_go ?_
          try simp only [go_sem]
          have hj := posF_to rfl rfl (ih0 a0 (IntKind.i64.wrap (p0_0 + 1)) (IntKind.i64.wrap (p0_1 + 1)) _ h)
          refine lp_to hj (.one ⟨_, .done _, [], [], ?_⟩)
          clear hj
          try simp only [go_sem]
      · replace h := ifF (c := (decide (p0_1 < ((List.length a0 : Nat) : Int)))) hb1 h
        try simp only [go_sem]
        refine seq_go ?_
        try simp only [go_sem]
        replace h := Option.some.inj h
        obtain rfl := h
        simp only [go_sem]
theorem l_heldStringS_l1_ok (n : Nat) : (∀ (a0 : List ByteArray) (p0_0 : Int) (p0_1 : Int) (r : Int), l_heldStringS_l1 n a0 p0_0 p0_1 = some r → posF Tryd.prog Tryd.f18 [1, 0, 1, 0] (.int .i64 r) ⟨[(0, .ro (List.map strD a0)), (1, .int .i64 p0_0), (5, .int .i64 p0_1)], [], []⟩) := (l_heldStringS_l1_all n)

theorem l_heldStringS_ok (a0 : List ByteArray) (a1 : Int) (r : Int) (h : l_heldStringS a0 a1 = some r) : AC Tryd.prog 18 [.ro (List.map strD a0), .int .i64 a1] (.int .i64 r) := by
  unfold l_heldStringS at h
  refine ac_fn mixed Tryd.func18 rfl rfl rfl (by kernel_rfl) (by kernel_rfl) ?_
  try simp only [go_sem]
  have hj := posF_to rfl rfl (l_heldStringS_l1_ok fuel a0 a1 0 _ h)
  refine loop_to hj (.one ⟨_, .done _, [], [], ?_⟩)
  clear hj
  try simp only [go_sem]
theorem l_FnExactReportLines_j1_ok (a0 : Report) (v6002 : (List ByteArray)) (v8001 : (List ByteArray)) (p0_0 : Bool) (r : Bool) (h : l_FnExactReportLines_j1 a0 v6002 v8001 p0_0 = some r) : posF Tryd.prog Tryd.f4 [1, 1, 1, 1, 1, 1, 1, 1, 1, 1, 1, 0, 1] (.bool r) ⟨[(1, .box 1000000500 0), (4, .own 1000000000), (6, .own 1000000001), (42, .bool p0_0)], [(1000000000, some ⟨List.map strD v6002, some 1, 0⟩), (1000000001, some ⟨List.map strD v8001, some 1, 0⟩)], [(1000000500, some [.int .i64 a0.result.kind, .int .i64 a0.result.value, .ro (List.map i64D a0.result.data), .ro (List.map Core.ds a0.result.kids), .ro (List.map i64D a0.interactions), .ro (List.map i64D a0.steps), .int .i64 a0.peak, .int .i64 a0.rounds, .int .i64 a0.entered])]⟩ := by
  unfold l_FnExactReportLines_j1 at h
  refine posF_of rfl rfl ?_
  try simp only [go_sem]
  refine cond_i (fun hb5 => ?_) (fun hb5 => ?_)
  · replace h := ifT (c := p0_0) hb5 h
    try simp only [go_sem]
    replace h := Option.some.inj h
    obtain rfl := h
    simp only [go_sem]
  · replace h := ifF (c := p0_0) hb5 h
    try simp only [go_sem]
    refine seq_go ?_
    try simp only [go_sem]
    replace h := bindE h
    obtain ⟨v18002, hv18002, h⟩ := h
    refine call_g ⟨[], [(1, 1000000001)], [], [], [], true⟩ (by kernel_rfl) (l_markStringS_ok _ _ (some 1) _ hv18002) (by kernel_rfl) ?_
    try simp only [go_sem]
    replace h := bindE h
    obtain ⟨v20002, hv20002, h⟩ := h
    refine call_i (l_heldStringS_ok _ _ _ hv20002) ?_
    try simp only [go_sem]
    refine cond_i (fun hb6 => ?_) (fun hb6 => ?_)
    · replace h := ifT (c := (decide (v20002 < 0))) hb6 h
      try simp only [go_sem]
      replace h := Option.some.inj h
      obtain rfl := h
      simp only [go_sem]
    · replace h := ifF (c := (decide (v20002 < 0))) hb6 h
      try simp only [go_sem]
      refine seq_go ?_
      try simp only [go_sem]
      refine cond_i (fun hb7 => ?_) (fun hb7 => ?_)
      · replace h := ifT (c := (!decide (v20002 = v18002.1))) hb7 h
        try simp only [go_sem]
        replace h := Option.some.inj h
        obtain rfl := h
        simp only [go_sem]
      · replace h := ifF (c := (!decide (v20002 = v18002.1))) hb7 h
        try simp only [go_sem]
        refine seq_go ?_
        try simp only [go_sem]
        replace h := bindE h
        obtain ⟨v25001, hv25001, h⟩ := h
        refine call_i (l_toReport_ok _ _ hv25001) ?_
        try simp only [go_sem]
        replace h := bindE h
        obtain ⟨v25002, hv25002, h⟩ := h
        refine call_g ⟨[], [], [], [(1501, 400032)], [], false⟩ (by kernel_rfl) (i_ReportLines_ok _ _ hv25002) (by kernel_rfl) ?_
        try simp only [go_sem]
        replace h := bindE h
        obtain ⟨v26002, hv26002, h⟩ := h
        refine call_i (l_eqStringS_ok _ _ _ hv26002) ?_
        try simp only [go_sem]
        refine cond_i (fun hb8 => ?_) (fun hb8 => ?_)
        · replace h := ifT (c := (!v26002)) hb8 h
          try simp only [go_sem]
          replace h := Option.some.inj h
          obtain rfl := h
          simp only [go_sem]
        · replace h := ifF (c := (!v26002)) hb8 h
          try simp only [go_sem]
          refine seq_go ?_
          try simp only [go_sem]
          replace h := bindE h
          obtain ⟨v29002, hv29002, h⟩ := h
          refine call_i (l_heldStringS_ok _ _ _ hv29002) ?_
          try simp only [go_sem]
          refine cond_i (fun hb9 => ?_) (fun hb9 => ?_)
          · replace h := ifT (c := (decide (v29002 < 0))) hb9 h
            try simp only [go_sem]
            replace h := Option.some.inj h
            obtain rfl := h
            simp only [go_sem]
          · replace h := ifF (c := (decide (v29002 < 0))) hb9 h
            try simp only [go_sem]
            refine seq_go ?_
            try simp only [go_sem]
            refine cond_i (fun hb10 => ?_) (fun hb10 => ?_)
            · replace h := ifT (c := (!decide (v29002 = v18002.1))) hb10 h
              try simp only [go_sem]
              replace h := Option.some.inj h
              obtain rfl := h
              simp only [go_sem]
            · replace h := ifF (c := (!decide (v29002 = v18002.1))) hb10 h
              try simp only [go_sem]
              refine seq_go ?_
              try simp only [go_sem]
              replace h := Option.some.inj h
              obtain rfl := h
              simp only [go_sem]
theorem l_FnExactReportLines_ok (a0 : Report) (r : Bool) (h : l_FnExactReportLines a0 = some r) : AC Tryd.prog 4 [.agg (Report.avs a0)] (.bool r) := by
  unfold l_FnExactReportLines at h
  refine ac_fn mixed Tryd.func4 rfl rfl rfl (by kernel_rfl) (by kernel_rfl) ?_
  try simp only [go_sem]
  replace h := bindE h
  obtain ⟨v3002, hv3002, h⟩ := h
  refine call_i (l_szReport_ok _ _ _ hv3002) ?_
  try simp only [go_sem]
  refine cond_i (fun hb1 => ?_) (fun hb1 => ?_)
  · replace h := ifT (c := (decide (v3002 < 0))) hb1 h
    try simp only [go_sem]
    replace h := Option.some.inj h
    obtain rfl := h
    simp only [go_sem]
  · replace h := ifF (c := (decide (v3002 < 0))) hb1 h
    try simp only [go_sem]
    refine seq_go ?_
    try simp only [go_sem]
    replace h := bindE h
    obtain ⟨v6001, hv6001, h⟩ := h
    refine call_i (l_toReport_ok _ _ hv6001) ?_
    try simp only [go_sem]
    replace h := bindE h
    obtain ⟨v6002, hv6002, h⟩ := h
    refine call_g ⟨[], [], [], [(1501, 96032)], [], false⟩ (by kernel_rfl) (s_ReportLines_ok _ _ hv6002) (by kernel_rfl) ?_
    try simp only [go_sem]
    replace h := bindE h
    obtain ⟨v7001, hv7001, h⟩ := h
    refine call_i (l_toReport_ok _ _ hv7001) ?_
    try simp only [go_sem]
    replace h := bindE h
    obtain ⟨v8001, hv8001, h⟩ := h
    refine call_g ⟨[], [], [], [(1501, 128016)], [], false⟩ (by kernel_rfl) (i_ReportLines_ok _ _ hv8001) (by kernel_rfl) ?_
    try simp only [go_sem]
    replace h := bindE h
    obtain ⟨v9002, hv9002, h⟩ := h
    refine call_i (l_eqStringS_ok _ _ _ hv9002) ?_
    try simp only [go_sem]
    refine cond_i (fun hb2 => ?_) (fun hb2 => ?_)
    · replace h := ifT (c := (!v9002)) hb2 h
      try simp only [go_sem]
      replace h := Option.some.inj h
      obtain rfl := h
      simp only [go_sem]
    · replace h := ifF (c := (!v9002)) hb2 h
      try simp only [go_sem]
      refine seq_go ?_
      try simp only [go_sem]
      refine draw_i [] .fin (by kernel_rfl) ?_
      try simp only [go_sem]
      replace h := bindE h
      obtain ⟨v11002, hv11002, h⟩ := h
      refine call_i (l_toReport_ok _ _ hv11002) ?_
      try simp only [go_sem]
      replace h := bindE h
      obtain ⟨v11003, hv11003, h⟩ := h
      refine call_i (l_eqReport_ok _ _ _ hv11003) ?_
      try simp only [go_sem]
      refine seq_go ?_
      try simp only [go_sem]
      refine cond_i (fun hb3 => ?_) (fun hb3 => ?_)
      · replace h := ifT (c := (!v11003)) hb3 h
        try simp only [go_sem]
        replace h := Option.some.inj h
        obtain rfl := h
        simp only [go_sem]
      · replace h := ifF (c := (!v11003)) hb3 h
        try simp only [go_sem]
        refine seq_go ?_
        try simp only [go_sem]
        replace h := bindE h
        obtain ⟨v14002, hv14002, h⟩ := h
        refine call_g ⟨[], [(1, 112016), (2, 112017), (3, 112018), (4, 112019)], [], [], [], true⟩ (by kernel_rfl) (l_markReport_ok _ _ (some 1) (some 4) (some 1) (some 1) _ hv14002) (by kernel_rfl) ?_
        try simp only [go_sem]
        refine cond_i (fun hb4 => ?_) (fun hb4 => ?_)
        · replace h := ifT (c := (decide (v14002.1 < 0))) hb4 h
          try simp only [go_sem]
          have hj := posF_to rfl rfl (l_FnExactReportLines_j1_ok a0 v6002 v8001 true _ h)
          refine seq_to hj (.one ⟨_, .done _, [(1000000000, 96032), (1000000001, 128016)], [(1000000500, 1000)], ?_⟩)
          clear hj
          try simp only [go_sem]
        · replace h := ifF (c := (decide (v14002.1 < 0))) hb4 h
          try simp only [go_sem]
          replace h := bindE h
          obtain ⟨v15005, hv15005, h⟩ := h
          refine call_i (l_eqStringS_ok _ _ _ hv15005) ?_
          try simp only [go_sem]
          have hj := posF_to rfl rfl (l_FnExactReportLines_j1_ok a0 v6002 v8001 (!v15005) _ h)
          refine seq_to hj (.one ⟨_, .done _, [(1000000000, 96032), (1000000001, 128016)], [(1000000500, 1000)], ?_⟩)
          clear hj
          try simp only [go_sem]
end Go.Proofs.YtlmanchbpommaaaDoor.Ab
