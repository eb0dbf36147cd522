/-
  The functions do what their models say. Printed by wip/ab/gen.py.
-/
import Derived.Test.YtgigfdghecdlgaaModN
import Derived.Test.YtgigfdghecdlgaaTi2
import Derived.Test.YtgigfdghecdlgaaWlkS
namespace Go.Proofs.Ytgigfdghecdlgaa.Ab
set_option linter.unusedVariables false
set_option linter.unusedSimpArgs false
set_option maxRecDepth 20000
set_option maxHeartbeats 4000000
open Go.RowKit

theorem l_szInt64S_ok (a0 : List Int) (a1 : Int) (r : Int) (h : l_szInt64S a0 a1 = some r) : AC Try.prog 33 [.ro (List.map i64D a0), .int .i64 a1] (.int .i64 r) := by
  unfold l_szInt64S at h
  refine ac_fn mixed Try.func33 rfl rfl rfl (by kernel_rfl) (by kernel_rfl) ?_
  try simp only [go_sem]
  refine cond_i (fun hb1 => ?_) (fun hb1 => ?_)
  · replace h := ifT (c := (decide ((IntKind.i64.wrap (a1 - ((List.length a0 : Nat) : Int))) < 0))) hb1 h
    try simp only [go_sem]
    replace h := Option.some.inj h
    obtain rfl := h
    simp only [go_sem]
  · replace h := ifF (c := (decide ((IntKind.i64.wrap (a1 - ((List.length a0 : Nat) : Int))) < 0))) hb1 h
    try simp only [go_sem]
    refine seq_go ?_
    try simp only [go_sem]
    replace h := Option.some.inj h
    obtain rfl := h
    simp only [go_sem]
theorem l_szCoreS_all (n : Nat) : (∀ (a0 : List Core) (a1 : Int) (r : Int), l_szCoreS n a0 a1 = some r → AC Try.prog 34 [.ro (List.map Core.ds a0), .int .i64 a1] (.int .i64 r)) ∧
    (∀ (a0 : List Core) (p0_0 : Int) (p0_1 : Int) (r : Int), l_szCoreS_l1 n a0 p0_0 p0_1 = some r → posF Try.prog Try.f34 [1, 1, 1, 0, 1, 0] (.int .i64 r) ⟨[(0, .ro (List.map Core.ds a0)), (1, .int .i64 p0_0), (5, .int .i64 p0_1)], [], []⟩) ∧
    (∀ (a0 : Core) (a1 : Int) (r : Int), l_szCore n a0 a1 = some r → AC Try.prog 16 [.agg (Core.avs a0), .int .i64 a1] (.int .i64 r)) := by
  induction n with
  | zero => exact ⟨(fun _ _ _ h => by rw [l_szCoreS] at h; cases h), (fun _ _ _ _ h => by rw [l_szCoreS_l1] at h; cases h), (fun _ _ _ h => by rw [l_szCore] at h; cases h)⟩
  | succ n ih =>
    obtain ⟨ih0, ih1, ih2⟩ := ih
    refine ⟨?_, ?_, ?_⟩
    · intro a0 a1 r h
      rw [l_szCoreS] at h
      refine ac_fn mixed Try.func34 rfl rfl rfl (by kernel_rfl) (by kernel_rfl) ?_
      try simp only [go_sem]
      refine cond_i (fun hb1 => ?_) (fun hb1 => ?_)
      · replace h := ifT (c := (decide ((IntKind.i64.wrap (a1 - ((List.length a0 : Nat) : Int))) < 0))) hb1 h
        try simp only [go_sem]
        replace h := Option.some.inj h
        obtain rfl := h
        simp only [go_sem]
      · replace h := ifF (c := (decide ((IntKind.i64.wrap (a1 - ((List.length a0 : Nat) : Int))) < 0))) hb1 h
        try simp only [go_sem]
        refine seq_go ?_
        try simp only [go_sem]
        have hj := posF_to rfl rfl (ih1 a0 (IntKind.i64.wrap (a1 - ((List.length a0 : Nat) : Int))) 0 _ h)
        refine loop_to hj (.one ⟨_, .done _, [], [], ?_⟩)
        clear hj
        try simp only [go_sem]
    · intro a0 p0_0 p0_1 r h
      rw [l_szCoreS_l1] at h
      refine posF_of rfl rfl ?_
      try simp only [go_sem]
      refine loop_i ?_
      try simp only [go_sem]
      refine cond_i (fun hb2 => ?_) (fun hb2 => ?_)
      · replace h := ifT (c := (decide (p0_1 < ((List.length a0 : Nat) : Int)))) hb2 h
        try simp only [go_sem]
        refine seq_go ?_
        try simp only [go_sem]
        replace h := bindE h
        obtain ⟨v8002, hv8002, h⟩ := h
        refine idx_m hv8002 (Core.ds_len _) ?_
        try simp only [go_sem]
        replace h := bindE h
        obtain ⟨v8005, hv8005, h⟩ := h
        refine call_i (ih2 _ _ _ hv8005) ?_
        try simp only [go_sem]
        refine seq_go ?_
        try simp only [go_sem]
        refine cond_i (fun hb3 => ?_) (fun hb3 => ?_)
        · replace h := ifT (c := (decide (v8005 < 0))) hb3 h
          try simp only [go_sem]
          replace h := Option.some.inj h
          obtain rfl := h
          simp only [go_sem]
        · replace h := ifF (c := (decide (v8005 < 0))) hb3 h
          try simp only [go_sem]
          refine seq_go ?_
          try simp only [go_sem]
          have hj := posF_to rfl rfl (ih1 a0 v8005 (IntKind.i64.wrap (p0_1 + 1)) _ h)
          refine lp_to hj (.one ⟨_, .done _, [], [], ?_⟩)
          clear hj
          try simp only [go_sem]
      · replace h := ifF (c := (decide (p0_1 < ((List.length a0 : Nat) : Int)))) hb2 h
        try simp only [go_sem]
        refine seq_go ?_
        try simp only [go_sem]
        replace h := Option.some.inj h
        obtain rfl := h
        simp only [go_sem]
    · intro a0 a1 r h
      rw [l_szCore] at h
      refine ac_fn mixed Try.func16 rfl rfl rfl (by kernel_rfl) (by kernel_rfl) ?_
      try simp only [go_sem]
      replace h := bindE h
      obtain ⟨v2003, hv2003, h⟩ := h
      refine call_i (l_szInt64S_ok _ _ _ hv2003) ?_
      try simp only [go_sem]
      refine seq_go ?_
      try simp only [go_sem]
      refine cond_i (fun hb1 => ?_) (fun hb1 => ?_)
      · replace h := ifT (c := (decide (v2003 < 0))) hb1 h
        try simp only [go_sem]
        replace h := Option.some.inj h
        obtain rfl := h
        simp only [go_sem]
      · replace h := ifF (c := (decide (v2003 < 0))) hb1 h
        try simp only [go_sem]
        refine seq_go ?_
        try simp only [go_sem]
        replace h := bindE h
        obtain ⟨v5003, hv5003, h⟩ := h
        refine call_i (ih0 _ _ _ hv5003) ?_
        try simp only [go_sem]
        refine seq_go ?_
        try simp only [go_sem]
        refine cond_i (fun hb2 => ?_) (fun hb2 => ?_)
        · replace h := ifT (c := (decide (v5003 < 0))) hb2 h
          try simp only [go_sem]
          replace h := Option.some.inj h
          obtain rfl := h
          simp only [go_sem]
        · replace h := ifF (c := (decide (v5003 < 0))) hb2 h
          try simp only [go_sem]
          refine seq_go ?_
          try simp only [go_sem]
          replace h := Option.some.inj h
          obtain rfl := h
          simp only [go_sem]
theorem l_szCoreS_ok (n : Nat) : (∀ (a0 : List Core) (a1 : Int) (r : Int), l_szCoreS n a0 a1 = some r → AC Try.prog 34 [.ro (List.map Core.ds a0), .int .i64 a1] (.int .i64 r)) := (l_szCoreS_all n).1
theorem l_szCoreS_l1_ok (n : Nat) : (∀ (a0 : List Core) (p0_0 : Int) (p0_1 : Int) (r : Int), l_szCoreS_l1 n a0 p0_0 p0_1 = some r → posF Try.prog Try.f34 [1, 1, 1, 0, 1, 0] (.int .i64 r) ⟨[(0, .ro (List.map Core.ds a0)), (1, .int .i64 p0_0), (5, .int .i64 p0_1)], [], []⟩) := (l_szCoreS_all n).2.1
theorem l_szCore_ok (n : Nat) : (∀ (a0 : Core) (a1 : Int) (r : Int), l_szCore n a0 a1 = some r → AC Try.prog 16 [.agg (Core.avs a0), .int .i64 a1] (.int .i64 r)) := (l_szCoreS_all n).2.2

theorem l_szStringS_l1_all (n : Nat) : (∀ (a0 : List ByteArray) (p0_0 : Int) (p0_1 : Int) (r : Int), l_szStringS_l1 n a0 p0_0 p0_1 = some r → posF Try.prog Try.f17 [1, 1, 1, 0, 1, 0] (.int .i64 r) ⟨[(0, .ro (List.map strD a0)), (1, .int .i64 p0_0), (5, .int .i64 p0_1)], [], []⟩) := by
  induction n with
  | zero => exact ((fun _ _ _ _ h => by rw [l_szStringS_l1] at h; cases h))
  | succ n ih =>
    have ih0 := ih
    · intro a0 p0_0 p0_1 r h
      rw [l_szStringS_l1] at h
      refine posF_of rfl rfl ?_
      try simp only [go_sem]
      refine loop_i ?_
      try simp only [go_sem]
      refine cond_i (fun hb2 => ?_) (fun hb2 => ?_)
      · replace h := ifT (c := (decide (p0_1 < ((List.length a0 : Nat) : Int)))) hb2 h
        try simp only [go_sem]
        refine seq_go ?_
        try simp only [go_sem]
        replace h := bindE h
        obtain ⟨v8003, hv8003, h⟩ := h
        refine idx_m hv8003 rfl ?_
        try simp only [go_sem]
        refine cond_i (fun hb3 => ?_) (fun hb3 => ?_)
        · replace h := ifT (c := (decide ((IntKind.i64.wrap (p0_0 - ((ByteArray.size v8003 : Nat) : Int))) < 0))) hb3 h
          try simp only [go_sem]
          replace h := Option.some.inj h
          obtain rfl := h
          simp only [go_sem]
        · replace h := ifF (c := (decide ((IntKind.i64.wrap (p0_0 - ((ByteArray.size v8003 : Nat) : Int))) < 0))) hb3 h
          try simp only [go_sem]
          refine seq_go ?_
          try simp only [go_sem]
          have hj := posF_to rfl rfl (ih0 a0 (IntKind.i64.wrap (p0_0 - ((ByteArray.size v8003 : Nat) : Int))) (IntKind.i64.wrap (p0_1 + 1)) _ h)
          refine lp_to hj (.one ⟨_, .done _, [], [], ?_⟩)
          clear hj
          try simp only [go_sem]
      · replace h := ifF (c := (decide (p0_1 < ((List.length a0 : Nat) : Int)))) hb2 h
        try simp only [go_sem]
        refine seq_go ?_
        try simp only [go_sem]
        replace h := Option.some.inj h
        obtain rfl := h
        simp only [go_sem]
theorem l_szStringS_l1_ok (n : Nat) : (∀ (a0 : List ByteArray) (p0_0 : Int) (p0_1 : Int) (r : Int), l_szStringS_l1 n a0 p0_0 p0_1 = some r → posF Try.prog Try.f17 [1, 1, 1, 0, 1, 0] (.int .i64 r) ⟨[(0, .ro (List.map strD a0)), (1, .int .i64 p0_0), (5, .int .i64 p0_1)], [], []⟩) := (l_szStringS_l1_all n)

theorem l_szStringS_ok (a0 : List ByteArray) (a1 : Int) (r : Int) (h : l_szStringS a0 a1 = some r) : AC Try.prog 17 [.ro (List.map strD a0), .int .i64 a1] (.int .i64 r) := by
  unfold l_szStringS at h
  refine ac_fn mixed Try.func17 rfl rfl rfl (by kernel_rfl) (by kernel_rfl) ?_
  try simp only [go_sem]
  refine cond_i (fun hb1 => ?_) (fun hb1 => ?_)
  · replace h := ifT (c := (decide ((IntKind.i64.wrap (a1 - ((List.length a0 : Nat) : Int))) < 0))) hb1 h
    try simp only [go_sem]
    replace h := Option.some.inj h
    obtain rfl := h
    simp only [go_sem]
  · replace h := ifF (c := (decide ((IntKind.i64.wrap (a1 - ((List.length a0 : Nat) : Int))) < 0))) hb1 h
    try simp only [go_sem]
    refine seq_go ?_
    try simp only [go_sem]
    have hj := posF_to rfl rfl (l_szStringS_l1_ok fuel a0 (IntKind.i64.wrap (a1 - ((List.length a0 : Nat) : Int))) 0 _ h)
    refine loop_to hj (.one ⟨_, .done _, [], [], ?_⟩)
    clear hj
    try simp only [go_sem]
theorem l_szLabelled_ok (a0 : Labelled) (a1 : Int) (r : Int) (h : l_szLabelled a0 a1 = some r) : AC Try.prog 5 [.agg (Labelled.avs a0), .int .i64 a1] (.int .i64 r) := by
  unfold l_szLabelled at h
  refine ac_fn mixed Try.func5 rfl rfl rfl (by kernel_rfl) (by kernel_rfl) ?_
  try simp only [go_sem]
  replace h := bindE h
  obtain ⟨v2003, hv2003, h⟩ := h
  refine call_i (l_szCore_ok fuel _ _ _ hv2003) ?_
  try simp only [go_sem]
  refine seq_go ?_
  try simp only [go_sem]
  refine cond_i (fun hb1 => ?_) (fun hb1 => ?_)
  · replace h := ifT (c := (decide (v2003 < 0))) hb1 h
    try simp only [go_sem]
    replace h := Option.some.inj h
    obtain rfl := h
    simp only [go_sem]
  · replace h := ifF (c := (decide (v2003 < 0))) hb1 h
    try simp only [go_sem]
    refine seq_go ?_
    try simp only [go_sem]
    replace h := bindE h
    obtain ⟨v5003, hv5003, h⟩ := h
    refine call_i (l_szStringS_ok _ _ _ hv5003) ?_
    try simp only [go_sem]
    refine seq_go ?_
    try simp only [go_sem]
    refine cond_i (fun hb2 => ?_) (fun hb2 => ?_)
    · replace h := ifT (c := (decide (v5003 < 0))) hb2 h
      try simp only [go_sem]
      replace h := Option.some.inj h
      obtain rfl := h
      simp only [go_sem]
    · replace h := ifF (c := (decide (v5003 < 0))) hb2 h
      try simp only [go_sem]
      refine seq_go ?_
      try simp only [go_sem]
      replace h := Option.some.inj h
      obtain rfl := h
      simp only [go_sem]
theorem s_NameAt_j1_ok (v4001 : L38T × Bool) (p0_0 : Bool) (r : ByteArray × Int) (h : s_NameAt_j1 v4001 p0_0 = some r) : posF Try.prog Try.f6 [1, 1, 1, 0, 1] (.tup [.str r.1, .int .i64 r.2]) ⟨[(6, .rop [.int .i64 v4001.1.kind, .int .i64 v4001.1.value, .ro (List.map i64D v4001.1.data), .str v4001.1.label, .ro (List.map L38T.ds v4001.1.kids)] 0), (21, .bool p0_0)], [], []⟩ := by
  unfold s_NameAt_j1 at h
  refine posF_of rfl rfl ?_
  try simp only [go_sem]
  refine cond_i (fun hb3 => ?_) (fun hb3 => ?_)
  · replace h := ifT (c := p0_0) hb3 h
    try simp only [go_sem]
    replace h := Option.some.inj h
    obtain rfl := h
    simp only [go_sem]
  · replace h := ifF (c := p0_0) hb3 h
    try simp only [go_sem]
    refine seq_go ?_
    try simp only [go_sem]
    replace h := bindE h
    obtain ⟨v7001, hv7001, h⟩ := h
    refine call_i (s_l38Name_ok _ _ hv7001) ?_
    try simp only [go_sem]
    refine seq_go ?_
    try simp only [go_sem]
    replace h := Option.some.inj h
    obtain rfl := h
    simp only [go_sem]
theorem s_NameAt_ok (a0 : Labelled) (a1 : Int) (r : ByteArray × Int) (h : s_NameAt a0 a1 = some r) : AC Try.prog 6 [.agg (Labelled.avs a0), .int .i64 a1] (.tup [.str r.1, .int .i64 r.2]) := by
  unfold s_NameAt at h
  refine ac_fn mixed Try.func6 rfl rfl rfl (by kernel_rfl) (by kernel_rfl) ?_
  try simp only [go_sem]
  replace h := bindE h
  obtain ⟨v2000, hv2000, h⟩ := h
  refine call_i (s_l38Ok_ok _ _ hv2000) ?_
  try simp only [go_sem]
  refine seq_go ?_
  try simp only [go_sem]
  refine cond_i (fun hb1 => ?_) (fun hb1 => ?_)
  · replace h := ifT (c := (!v2000)) hb1 h
    try simp only [go_sem]
    replace h := Option.some.inj h
    obtain rfl := h
    simp only [go_sem]
  · replace h := ifF (c := (!v2000)) hb1 h
    try simp only [go_sem]
    refine seq_fz (.frzB 1000 [(2, [])] [] _ _ _ (by (first | rfl | (simp only [go_sem]; rfl))) (by decide) (by rfl) (by (first | rfl | (simp only [go_sem]; rfl))) (by (first | rfl | (simp only [go_sem]; rfl))) (.done _)) ?_
    try simp only [go_sem]
    all_goals try rfl
    replace h := bindE h
    obtain ⟨v4001, hv4001, h⟩ := h
    refine call_z (s_l38At_ok _ _ _ hv4001) (by (first | rfl | (simp only [go_sem]; rfl))) (by first | rfl | (simp only [go_sem])) ?_
    try simp only [go_sem]
    refine seq_go ?_
    try simp only [go_sem]
    refine cond_i (fun hb2 => ?_) (fun hb2 => ?_)
    · replace h := ifT (c := (!v4001.2)) hb2 h
      try simp only [go_sem]
      have hj := posF_to rfl rfl (s_NameAt_j1_ok v4001 true _ h)
      refine seq_to hj (.one ⟨_, .done _, [], [], ?_⟩)
      clear hj
      try simp only [go_sem]
    · replace h := ifF (c := (!v4001.2)) hb2 h
      try simp only [go_sem]
      replace h := bindE h
      obtain ⟨v5004, hv5004, h⟩ := h
      refine call_i (s_l38Kind_ok _ _ hv5004) ?_
      try simp only [go_sem]
      have hj := posF_to rfl rfl (s_NameAt_j1_ok v4001 (decide (v5004 = 0)) _ h)
      refine seq_to hj (.one ⟨_, .done _, [], [], ?_⟩)
      clear hj
      try simp only [go_sem]
theorem l_toInt64S_l2_all (n : Nat) : (∀ (a0 : List Int) (p1_0 : List Int) (p1_1 : Int) (r : (List Int)), l_toInt64S_l2 n a0 p1_0 p1_1 = some r → posF Try.prog Try.f43 [1, 1, 0, 1, 0] (.ow (some 1) (List.map i64D r)) ⟨[(0, .ro (List.map i64D a0)), (3, .own 1000001000), (4, .int .i64 p1_1)], [(1000001000, some ⟨List.map i64D p1_0, some 1, 0, false⟩)], []⟩) := by
  induction n with
  | zero => exact ((fun _ _ _ _ h => by rw [l_toInt64S_l2] at h; cases h))
  | succ n ih =>
    have ih0 := ih
    · intro a0 p1_0 p1_1 r h
      rw [l_toInt64S_l2] at h
      refine posF_of rfl rfl ?_
      try simp only [go_sem]
      refine loop_i ?_
      try simp only [go_sem]
      refine cond_i (fun hb1 => ?_) (fun hb1 => ?_)
      · replace h := ifT (c := (decide (p1_1 < ((List.length a0 : Nat) : Int)))) hb1 h
        try simp only [go_sem]
        refine seq_go ?_
        try simp only [go_sem]
        replace h := bindE h
        obtain ⟨v6004, hv6004, h⟩ := h
        refine idx_m hv6004 rfl ?_
        try simp only [go_sem]
        replace h := bindE h
        obtain ⟨v6006, hv6006, h⟩ := h
        refine idx_m hv6006 rfl ?_
        try simp only [go_sem]
        replace h := bindE h
        obtain ⟨v6007_12, hv6007_12, h⟩ := h
        refine opt_i (row_m hv6006) ?_
        try simp only [go_sem]
        refine row_i (List.map i64D v6007_12) (by rw [← set1_some hv6007_12]; simp only [List.map_set, go_sem, slD]) ?_
        try simp only [go_sem]
        refine seq_go ?_
        try simp only [go_sem]
        have hj := posF_to rfl rfl (ih0 a0 v6007_12 (IntKind.i64.wrap (p1_1 + 1)) _ h)
        refine lp_to hj (.one ⟨_, .done _, [(1000001000, 1000001000)], [], ?_⟩)
        clear hj
        try simp only [go_sem]
      · replace h := ifF (c := (decide (p1_1 < ((List.length a0 : Nat) : Int)))) hb1 h
        try simp only [go_sem]
        refine seq_go ?_
        try simp only [go_sem]
        replace h := Option.some.inj h
        obtain rfl := h
        simp only [go_sem]
theorem l_toInt64S_l2_ok (n : Nat) : (∀ (a0 : List Int) (p1_0 : List Int) (p1_1 : Int) (r : (List Int)), l_toInt64S_l2 n a0 p1_0 p1_1 = some r → posF Try.prog Try.f43 [1, 1, 0, 1, 0] (.ow (some 1) (List.map i64D r)) ⟨[(0, .ro (List.map i64D a0)), (3, .own 1000001000), (4, .int .i64 p1_1)], [(1000001000, some ⟨List.map i64D p1_0, some 1, 0, false⟩)], []⟩) := (l_toInt64S_l2_all n)

theorem l_toInt64S_ok (a0 : List Int) (r : (List Int)) (h : l_toInt64S a0 = some r) : AC Try.prog 43 [.ro (List.map i64D a0)] (.ow (some 1) (List.map i64D r)) := by
  unfold l_toInt64S at h
  refine ac_fn mixed Try.func43 rfl rfl rfl (by kernel_rfl) (by kernel_rfl) ?_
  try simp only [go_sem]
  replace h := bindE h
  obtain ⟨v2002, hv2002, h⟩ := h
  have hq_ := rep_some hv2002
  obtain ⟨hv2002a, hv2002b, hv2002c⟩ := hq_
  refine and_i (by refine ⟨?_, ?_, ?_⟩ <;> omega) ?_
  try simp only [go_sem]
  refine row_i (List.map i64D v2002) (by rw [← hv2002c]; simp only [List.map_replicate, go_sem, slD]) ?_
  try simp only [go_sem]
  refine seq_go ?_
  try simp only [go_sem]
  have hj := posF_to rfl rfl (l_toInt64S_l2_ok fuel a0 v2002 0 _ h)
  refine loop_to hj (.one ⟨_, .done _, [(1000001000, 32032)], [], ?_⟩)
  clear hj
  try simp only [go_sem]
theorem l_toCoreS_all (n : Nat) : (∀ (a0 : List Core) (r : (List Core)), l_toCoreS n a0 = some r → AC Try.prog 44 [.ro (List.map Core.ds a0)] (.ow (some 4) (List.map Core.ds r))) ∧
    (∀ (a0 : List Core) (p1_0 : List Core) (p1_1 : Int) (r : (List Core)), l_toCoreS_l2 n a0 p1_0 p1_1 = some r → posF Try.prog Try.f44 [1, 1, 0, 1, 0] (.ow (some 4) (List.map Core.ds r)) ⟨[(0, .ro (List.map Core.ds a0)), (3, .own 1000001000), (4, .int .i64 p1_1)], [(1000001000, some ⟨List.map Core.ds p1_0, some 4, 0, false⟩)], []⟩) ∧
    (∀ (a0 : Core) (r : Core), l_toCore n a0 = some r → AC Try.prog 22 [.agg (Core.avs a0)] (.agg (Core.rv r))) := by
  induction n with
  | zero => exact ⟨(fun _ _ h => by rw [l_toCoreS] at h; cases h), (fun _ _ _ _ h => by rw [l_toCoreS_l2] at h; cases h), (fun _ _ h => by rw [l_toCore] at h; cases h)⟩
  | succ n ih =>
    obtain ⟨ih0, ih1, ih2⟩ := ih
    refine ⟨?_, ?_, ?_⟩
    · intro a0 r h
      rw [l_toCoreS] at h
      refine ac_fn mixed Try.func44 rfl rfl rfl (by kernel_rfl) (by kernel_rfl) ?_
      try simp only [go_sem]
      replace h := bindE h
      obtain ⟨v2002, hv2002, h⟩ := h
      have hq_ := rep_some hv2002
      obtain ⟨hv2002a, hv2002b, hv2002c⟩ := hq_
      refine and_i (by refine ⟨?_, ?_, ?_⟩ <;> omega) ?_
      try simp only [go_sem]
      refine row_i (List.map Core.ds v2002) (by rw [← hv2002c]; simp only [List.map_replicate, go_sem, Core.ds_eq]) ?_
      try simp only [go_sem]
      refine seq_go ?_
      try simp only [go_sem]
      have hj := posF_to rfl rfl (ih1 a0 v2002 0 _ h)
      refine loop_to hj (.one ⟨_, .done _, [(1000001000, 32032)], [], ?_⟩)
      clear hj
      try simp only [go_sem]
    · intro a0 p1_0 p1_1 r h
      rw [l_toCoreS_l2] at h
      refine posF_of rfl rfl ?_
      try simp only [go_sem]
      refine loop_i ?_
      try simp only [go_sem]
      refine cond_i (fun hb1 => ?_) (fun hb1 => ?_)
      · replace h := ifT (c := (decide (p1_1 < ((List.length a0 : Nat) : Int)))) hb1 h
        try simp only [go_sem]
        refine seq_go ?_
        try simp only [go_sem]
        replace h := bindE h
        obtain ⟨v6004, hv6004, h⟩ := h
        refine idx_m hv6004 (Core.ds_len _) ?_
        try simp only [go_sem]
        replace h := bindE h
        obtain ⟨v6006, hv6006, h⟩ := h
        refine call_i (ih2 _ _ hv6006) ?_
        try simp only [go_sem]
        replace h := bindE h
        obtain ⟨v6007, hv6007, h⟩ := h
        refine idx_m hv6007 (Core.ds_len _) ?_
        try simp only [go_sem]
        replace h := bindE h
        obtain ⟨v6008_12, hv6008_12, h⟩ := h
        refine opt_i (row_m hv6007) ?_
        try simp only [go_sem]
        refine row_i (List.map Core.ds v6008_12) (by rw [← set1_some hv6008_12]; simp only [List.map_set, go_sem, Core.ds_eq]) ?_
        try simp only [go_sem]
        refine seq_go ?_
        try simp only [go_sem]
        have hj := posF_to rfl rfl (ih1 a0 v6008_12 (IntKind.i64.wrap (p1_1 + 1)) _ h)
        refine lp_to hj (.one ⟨_, .done _, [(1000001000, 1000001000)], [], ?_⟩)
        clear hj
        try simp only [go_sem]
      · replace h := ifF (c := (decide (p1_1 < ((List.length a0 : Nat) : Int)))) hb1 h
        try simp only [go_sem]
        refine seq_go ?_
        try simp only [go_sem]
        replace h := Option.some.inj h
        obtain rfl := h
        simp only [go_sem]
    · intro a0 r h
      rw [l_toCore] at h
      refine ac_fn mixed Try.func22 rfl rfl rfl (by kernel_rfl) (by kernel_rfl) ?_
      try simp only [go_sem]
      refine seq_go ?_
      try simp only [go_sem]
      refine seq_go ?_
      try simp only [go_sem]
      replace h := bindE h
      obtain ⟨v5002, hv5002, h⟩ := h
      refine call_i (l_toInt64S_ok _ _ hv5002) ?_
      try simp only [go_sem]
      refine seq_go ?_
      try simp only [go_sem]
      replace h := bindE h
      obtain ⟨v6002, hv6002, h⟩ := h
      refine call_i (ih0 _ _ hv6002) ?_
      try simp only [go_sem]
      refine seq_go ?_
      try simp only [go_sem]
      replace h := Option.some.inj h
      obtain rfl := h
      simp only [go_sem]
theorem l_toCoreS_ok (n : Nat) : (∀ (a0 : List Core) (r : (List Core)), l_toCoreS n a0 = some r → AC Try.prog 44 [.ro (List.map Core.ds a0)] (.ow (some 4) (List.map Core.ds r))) := (l_toCoreS_all n).1
theorem l_toCoreS_l2_ok (n : Nat) : (∀ (a0 : List Core) (p1_0 : List Core) (p1_1 : Int) (r : (List Core)), l_toCoreS_l2 n a0 p1_0 p1_1 = some r → posF Try.prog Try.f44 [1, 1, 0, 1, 0] (.ow (some 4) (List.map Core.ds r)) ⟨[(0, .ro (List.map Core.ds a0)), (3, .own 1000001000), (4, .int .i64 p1_1)], [(1000001000, some ⟨List.map Core.ds p1_0, some 4, 0, false⟩)], []⟩) := (l_toCoreS_all n).2.1
theorem l_toCore_ok (n : Nat) : (∀ (a0 : Core) (r : Core), l_toCore n a0 = some r → AC Try.prog 22 [.agg (Core.avs a0)] (.agg (Core.rv r))) := (l_toCoreS_all n).2.2

theorem l_toStringS_l2_all (n : Nat) : (∀ (a0 : List ByteArray) (p1_0 : List ByteArray) (p1_1 : Int) (r : (List ByteArray)), l_toStringS_l2 n a0 p1_0 p1_1 = some r → posF Try.prog Try.f23 [1, 1, 0, 1, 0] (.ow (some 1) (List.map strD r)) ⟨[(0, .ro (List.map strD a0)), (3, .own 1000001000), (4, .int .i64 p1_1)], [(1000001000, some ⟨List.map strD p1_0, some 1, 0, false⟩)], []⟩) := by
  induction n with
  | zero => exact ((fun _ _ _ _ h => by rw [l_toStringS_l2] at h; cases h))
  | succ n ih =>
    have ih0 := ih
    · intro a0 p1_0 p1_1 r h
      rw [l_toStringS_l2] at h
      refine posF_of rfl rfl ?_
      try simp only [go_sem]
      refine loop_i ?_
      try simp only [go_sem]
      refine cond_i (fun hb1 => ?_) (fun hb1 => ?_)
      · replace h := ifT (c := (decide (p1_1 < ((List.length a0 : Nat) : Int)))) hb1 h
        try simp only [go_sem]
        refine seq_go ?_
        try simp only [go_sem]
        replace h := bindE h
        obtain ⟨v6004, hv6004, h⟩ := h
        refine idx_m hv6004 rfl ?_
        try simp only [go_sem]
        replace h := bindE h
        obtain ⟨v6006, hv6006, h⟩ := h
        refine idx_m hv6006 rfl ?_
        try simp only [go_sem]
        replace h := bindE h
        obtain ⟨v6007_12, hv6007_12, h⟩ := h
        refine opt_i (row_m hv6006) ?_
        try simp only [go_sem]
        refine row_i (List.map strD v6007_12) (by rw [← set1_some hv6007_12]; simp only [List.map_set, go_sem, slD]) ?_
        try simp only [go_sem]
        refine seq_go ?_
        try simp only [go_sem]
        have hj := posF_to rfl rfl (ih0 a0 v6007_12 (IntKind.i64.wrap (p1_1 + 1)) _ h)
        refine lp_to hj (.one ⟨_, .done _, [(1000001000, 1000001000)], [], ?_⟩)
        clear hj
        try simp only [go_sem]
      · replace h := ifF (c := (decide (p1_1 < ((List.length a0 : Nat) : Int)))) hb1 h
        try simp only [go_sem]
        refine seq_go ?_
        try simp only [go_sem]
        replace h := Option.some.inj h
        obtain rfl := h
        simp only [go_sem]
theorem l_toStringS_l2_ok (n : Nat) : (∀ (a0 : List ByteArray) (p1_0 : List ByteArray) (p1_1 : Int) (r : (List ByteArray)), l_toStringS_l2 n a0 p1_0 p1_1 = some r → posF Try.prog Try.f23 [1, 1, 0, 1, 0] (.ow (some 1) (List.map strD r)) ⟨[(0, .ro (List.map strD a0)), (3, .own 1000001000), (4, .int .i64 p1_1)], [(1000001000, some ⟨List.map strD p1_0, some 1, 0, false⟩)], []⟩) := (l_toStringS_l2_all n)

theorem l_toStringS_ok (a0 : List ByteArray) (r : (List ByteArray)) (h : l_toStringS a0 = some r) : AC Try.prog 23 [.ro (List.map strD a0)] (.ow (some 1) (List.map strD r)) := by
  unfold l_toStringS at h
  refine ac_fn mixed Try.func23 rfl rfl rfl (by kernel_rfl) (by kernel_rfl) ?_
  try simp only [go_sem]
  replace h := bindE h
  obtain ⟨v2002, hv2002, h⟩ := h
  have hq_ := rep_some hv2002
  obtain ⟨hv2002a, hv2002b, hv2002c⟩ := hq_
  refine and_i (by refine ⟨?_, ?_, ?_⟩ <;> omega) ?_
  try simp only [go_sem]
  refine row_i (List.map strD v2002) (by rw [← hv2002c]; simp only [List.map_replicate, go_sem, slD]) ?_
  try simp only [go_sem]
  refine seq_go ?_
  try simp only [go_sem]
  have hj := posF_to rfl rfl (l_toStringS_l2_ok fuel a0 v2002 0 _ h)
  refine loop_to hj (.one ⟨_, .done _, [(1000001000, 32032)], [], ?_⟩)
  clear hj
  try simp only [go_sem]
theorem l_toLabelled_ok (a0 : Labelled) (r : Labelled) (h : l_toLabelled a0 = some r) : AC Try.prog 7 [.agg (Labelled.avs a0)] (.agg (Labelled.rv r)) := by
  unfold l_toLabelled at h
  refine ac_fn mixed Try.func7 rfl rfl rfl (by kernel_rfl) (by kernel_rfl) ?_
  try simp only [go_sem]
  refine seq_go ?_
  try simp only [go_sem]
  refine seq_go ?_
  try simp only [go_sem]
  replace h := bindE h
  obtain ⟨v3002, hv3002, h⟩ := h
  refine call_i (l_toCore_ok fuel _ _ hv3002) ?_
  try simp only [go_sem]
  refine seq_go ?_
  try simp only [go_sem]
  replace h := bindE h
  obtain ⟨v4002, hv4002, h⟩ := h
  refine call_i (l_toStringS_ok _ _ hv4002) ?_
  try simp only [go_sem]
  refine seq_go ?_
  try simp only [go_sem]
  replace h := Option.some.inj h
  obtain rfl := h
  simp only [go_sem]
theorem i_NameAt_ok (a0 : Labelled) (a1 : Int) (r : ByteArray × Int) (h : i_NameAt a0 a1 = some r) : AC Try.prog 8 [.agg (Labelled.avs a0), .int .i64 a1] (.tup [.str r.1, .int .i64 r.2]) := by
  unfold i_NameAt at h
  refine ac_fn mixed Try.func8 rfl rfl rfl (by kernel_rfl) (by kernel_rfl) ?_
  try simp only [go_sem]
  replace h := bindE h
  obtain ⟨v2001, hv2001, h⟩ := h
  refine call_i (i_ValidLabelled_ok _ _ hv2001) ?_
  try simp only [go_sem]
  refine seq_go ?_
  try simp only [go_sem]
  refine cond_i (fun hb1 => ?_) (fun hb1 => ?_)
  · replace h := ifT (c := (!v2001)) hb1 h
    try simp only [go_sem]
    replace h := Option.some.inj h
    obtain rfl := h
    simp only [go_sem]
  · replace h := ifF (c := (!v2001)) hb1 h
    try simp only [go_sem]
    refine seq_go ?_
    try simp only [go_sem]
    replace h := bindE h
    obtain ⟨v4001, hv4001, h⟩ := h
    refine call_z (i_Labelled_root_ok _ _ hv4001) (by (first | rfl | (simp only [go_sem]; rfl))) (by first | rfl | (simp only [go_sem])) ?_
    try simp only [go_sem]
    replace h := bindE h
    obtain ⟨v4002, hv4002, h⟩ := h
    refine call_g ⟨[(3000064032, .nils, some 1)], [(1001, 3000064032)], [], [(1501, 64032)], [], true⟩ (by kernel_rfl) (i_labelNode_redexes_ok fuel _ _ _ hv4002) (by kernel_rfl) ?_
    try simp only [go_sem]
    replace h := bindE h
    obtain ⟨v4004, hv4004, h⟩ := h
    rcases v4004 with _ | v4004_9
    · replace h := opt2N h
      refine call_g ⟨[], [(1001, 64032)], [], [], [], true⟩ (by kernel_rfl) (i_redexAt_ok _ _ _ hv4004) (by kernel_rfl) ?_
      try simp only [go_sem]
      refine seq_go ?_
      try simp only [go_sem]
      replace h := Option.some.inj h
      obtain rfl := h
      simp only [go_sem]
    · replace h := opt2S h
      refine call_g ⟨[], [(1001, 64032)], [], [], [], true⟩ (by kernel_rfl) (i_redexAt_ok _ _ _ hv4004) (by kernel_rfl) ?_
      try simp only [go_sem]
      refine seq_go ?_
      try simp only [go_sem]
      refine seq_go ?_
      try simp only [go_sem]
      replace h := bindE h
      obtain ⟨v7001, hv7001, h⟩ := h
      refine call_i (i_labelNode_redexName_ok _ _ hv7001) ?_
      try simp only [go_sem]
      refine seq_go ?_
      try simp only [go_sem]
      replace h := Option.some.inj h
      obtain rfl := h
      simp only [go_sem]
theorem l_eqStringS_l1_all (n : Nat) : (∀ (a0 : List ByteArray) (a1 : List ByteArray) (p0_0 : Int) (r : Bool), l_eqStringS_l1 n a0 a1 p0_0 = some r → posF Try.prog Try.f12 [1, 1, 0, 1, 0] (.bool r) ⟨[(0, .ro (List.map strD a0)), (1, .ro (List.map strD a1)), (5, .int .i64 p0_0)], [], []⟩) := by
  induction n with
  | zero => exact ((fun _ _ _ _ h => by rw [l_eqStringS_l1] at h; cases h))
  | succ n ih =>
    have ih0 := ih
    · intro a0 a1 p0_0 r h
      rw [l_eqStringS_l1] at h
      refine posF_of rfl rfl ?_
      try simp only [go_sem]
      refine loop_i ?_
      try simp only [go_sem]
      refine cond_i (fun hb2 => ?_) (fun hb2 => ?_)
      · replace h := ifT (c := (decide (p0_0 < ((List.length a0 : Nat) : Int)))) hb2 h
        try simp only [go_sem]
        refine seq_go ?_
        try simp only [go_sem]
        refine draw_i [] .fin (by kernel_rfl) ?_
        try simp only [go_sem]
        replace h := bindE h
        obtain ⟨v7002, hv7002, h⟩ := h
        refine idx_m hv7002 rfl ?_
        try simp only [go_sem]
        replace h := bindE h
        obtain ⟨v7006, hv7006, h⟩ := h
        refine idx_m hv7006 rfl ?_
        try simp only [go_sem]
        refine seq_go ?_
        try simp only [go_sem]
        refine cond_i (fun hb3 => ?_) (fun hb3 => ?_)
        · replace h := ifT (c := (!sameStr v7002 v7006)) hb3 h
          try simp only [go_sem]
          replace h := Option.some.inj h
          obtain rfl := h
          simp only [go_sem]
        · replace h := ifF (c := (!sameStr v7002 v7006)) hb3 h
          try simp only [go_sem]
          refine seq_go ?_
          try simp only [go_sem]
          have hj := posF_to rfl rfl (ih0 a0 a1 (IntKind.i64.wrap (p0_0 + 1)) _ h)
          refine lp_to hj (.one ⟨_, .done _, [], [], ?_⟩)
          clear hj
          try simp only [go_sem]
      · replace h := ifF (c := (decide (p0_0 < ((List.length a0 : Nat) : Int)))) hb2 h
        try simp only [go_sem]
        refine seq_go ?_
        try simp only [go_sem]
        replace h := Option.some.inj h
        obtain rfl := h
        simp only [go_sem]
theorem l_eqStringS_l1_ok (n : Nat) : (∀ (a0 : List ByteArray) (a1 : List ByteArray) (p0_0 : Int) (r : Bool), l_eqStringS_l1 n a0 a1 p0_0 = some r → posF Try.prog Try.f12 [1, 1, 0, 1, 0] (.bool r) ⟨[(0, .ro (List.map strD a0)), (1, .ro (List.map strD a1)), (5, .int .i64 p0_0)], [], []⟩) := (l_eqStringS_l1_all n)

theorem l_eqStringS_ok (a0 : List ByteArray) (a1 : List ByteArray) (r : Bool) (h : l_eqStringS a0 a1 = some r) : AC Try.prog 12 [.ro (List.map strD a0), .ro (List.map strD a1)] (.bool r) := by
  unfold l_eqStringS at h
  refine ac_fn mixed Try.func12 rfl rfl rfl (by kernel_rfl) (by kernel_rfl) ?_
  try simp only [go_sem]
  refine cond_i (fun hb1 => ?_) (fun hb1 => ?_)
  · replace h := ifT (c := (!decide (((List.length a0 : Nat) : Int) = ((List.length a1 : Nat) : Int)))) hb1 h
    try simp only [go_sem]
    replace h := Option.some.inj h
    obtain rfl := h
    simp only [go_sem]
  · replace h := ifF (c := (!decide (((List.length a0 : Nat) : Int) = ((List.length a1 : Nat) : Int)))) hb1 h
    try simp only [go_sem]
    refine seq_go ?_
    try simp only [go_sem]
    have hj := posF_to rfl rfl (l_eqStringS_l1_ok fuel a0 a1 0 _ h)
    refine loop_to hj (.one ⟨_, .done _, [], [], ?_⟩)
    clear hj
    try simp only [go_sem]
theorem l_eqInt64S_l1_all (n : Nat) : (∀ (a0 : List Int) (a1 : List Int) (p0_0 : Int) (r : Bool), l_eqInt64S_l1 n a0 a1 p0_0 = some r → posF Try.prog Try.f53 [1, 1, 0, 1, 0] (.bool r) ⟨[(0, .ro (List.map i64D a0)), (1, .ro (List.map i64D a1)), (5, .int .i64 p0_0)], [], []⟩) := by
  induction n with
  | zero => exact ((fun _ _ _ _ h => by rw [l_eqInt64S_l1] at h; cases h))
  | succ n ih =>
    have ih0 := ih
    · intro a0 a1 p0_0 r h
      rw [l_eqInt64S_l1] at h
      refine posF_of rfl rfl ?_
      try simp only [go_sem]
      refine loop_i ?_
      try simp only [go_sem]
      refine cond_i (fun hb2 => ?_) (fun hb2 => ?_)
      · replace h := ifT (c := (decide (p0_0 < ((List.length a0 : Nat) : Int)))) hb2 h
        try simp only [go_sem]
        refine seq_go ?_
        try simp only [go_sem]
        refine draw_i [] .fin (by kernel_rfl) ?_
        try simp only [go_sem]
        replace h := bindE h
        obtain ⟨v7002, hv7002, h⟩ := h
        refine idx_m hv7002 rfl ?_
        try simp only [go_sem]
        replace h := bindE h
        obtain ⟨v7006, hv7006, h⟩ := h
        refine idx_m hv7006 rfl ?_
        try simp only [go_sem]
        refine seq_go ?_
        try simp only [go_sem]
        refine cond_i (fun hb3 => ?_) (fun hb3 => ?_)
        · replace h := ifT (c := (!decide (v7002 = v7006))) hb3 h
          try simp only [go_sem]
          replace h := Option.some.inj h
          obtain rfl := h
          simp only [go_sem]
        · replace h := ifF (c := (!decide (v7002 = v7006))) hb3 h
          try simp only [go_sem]
          refine seq_go ?_
          try simp only [go_sem]
          have hj := posF_to rfl rfl (ih0 a0 a1 (IntKind.i64.wrap (p0_0 + 1)) _ h)
          refine lp_to hj (.one ⟨_, .done _, [], [], ?_⟩)
          clear hj
          try simp only [go_sem]
      · replace h := ifF (c := (decide (p0_0 < ((List.length a0 : Nat) : Int)))) hb2 h
        try simp only [go_sem]
        refine seq_go ?_
        try simp only [go_sem]
        replace h := Option.some.inj h
        obtain rfl := h
        simp only [go_sem]
theorem l_eqInt64S_l1_ok (n : Nat) : (∀ (a0 : List Int) (a1 : List Int) (p0_0 : Int) (r : Bool), l_eqInt64S_l1 n a0 a1 p0_0 = some r → posF Try.prog Try.f53 [1, 1, 0, 1, 0] (.bool r) ⟨[(0, .ro (List.map i64D a0)), (1, .ro (List.map i64D a1)), (5, .int .i64 p0_0)], [], []⟩) := (l_eqInt64S_l1_all n)

theorem l_eqInt64S_ok (a0 : List Int) (a1 : List Int) (r : Bool) (h : l_eqInt64S a0 a1 = some r) : AC Try.prog 53 [.ro (List.map i64D a0), .ro (List.map i64D a1)] (.bool r) := by
  unfold l_eqInt64S at h
  refine ac_fn mixed Try.func53 rfl rfl rfl (by kernel_rfl) (by kernel_rfl) ?_
  try simp only [go_sem]
  refine cond_i (fun hb1 => ?_) (fun hb1 => ?_)
  · replace h := ifT (c := (!decide (((List.length a0 : Nat) : Int) = ((List.length a1 : Nat) : Int)))) hb1 h
    try simp only [go_sem]
    replace h := Option.some.inj h
    obtain rfl := h
    simp only [go_sem]
  · replace h := ifF (c := (!decide (((List.length a0 : Nat) : Int) = ((List.length a1 : Nat) : Int)))) hb1 h
    try simp only [go_sem]
    refine seq_go ?_
    try simp only [go_sem]
    have hj := posF_to rfl rfl (l_eqInt64S_l1_ok fuel a0 a1 0 _ h)
    refine loop_to hj (.one ⟨_, .done _, [], [], ?_⟩)
    clear hj
    try simp only [go_sem]
theorem l_eqCoreS_all (n : Nat) : (∀ (a0 : List Core) (a1 : List Core) (r : Bool), l_eqCoreS n a0 a1 = some r → AC Try.prog 54 [.ro (List.map Core.ds a0), .ro (List.map Core.ds a1)] (.bool r)) ∧
    (∀ (a0 : List Core) (a1 : List Core) (p0_0 : Int) (r : Bool), l_eqCoreS_l1 n a0 a1 p0_0 = some r → posF Try.prog Try.f54 [1, 1, 0, 1, 0] (.bool r) ⟨[(0, .ro (List.map Core.ds a0)), (1, .ro (List.map Core.ds a1)), (5, .int .i64 p0_0)], [], []⟩) ∧
    (∀ (a0 : Core) (a1 : Core) (r : Bool), l_eqCore n a0 a1 = some r → AC Try.prog 29 [.agg (Core.avs a0), .agg (Core.avs a1)] (.bool r)) := by
  induction n with
  | zero => exact ⟨(fun _ _ _ h => by rw [l_eqCoreS] at h; cases h), (fun _ _ _ _ h => by rw [l_eqCoreS_l1] at h; cases h), (fun _ _ _ h => by rw [l_eqCore] at h; cases h)⟩
  | succ n ih =>
    obtain ⟨ih0, ih1, ih2⟩ := ih
    refine ⟨?_, ?_, ?_⟩
    · intro a0 a1 r h
      rw [l_eqCoreS] at h
      refine ac_fn mixed Try.func54 rfl rfl rfl (by kernel_rfl) (by kernel_rfl) ?_
      try simp only [go_sem]
      refine cond_i (fun hb1 => ?_) (fun hb1 => ?_)
      · replace h := ifT (c := (!decide (((List.length a0 : Nat) : Int) = ((List.length a1 : Nat) : Int)))) hb1 h
        try simp only [go_sem]
        replace h := Option.some.inj h
        obtain rfl := h
        simp only [go_sem]
      · replace h := ifF (c := (!decide (((List.length a0 : Nat) : Int) = ((List.length a1 : Nat) : Int)))) hb1 h
        try simp only [go_sem]
        refine seq_go ?_
        try simp only [go_sem]
        have hj := posF_to rfl rfl (ih1 a0 a1 0 _ h)
        refine loop_to hj (.one ⟨_, .done _, [], [], ?_⟩)
        clear hj
        try simp only [go_sem]
    · intro a0 a1 p0_0 r h
      rw [l_eqCoreS_l1] at h
      refine posF_of rfl rfl ?_
      try simp only [go_sem]
      refine loop_i ?_
      try simp only [go_sem]
      refine cond_i (fun hb2 => ?_) (fun hb2 => ?_)
      · replace h := ifT (c := (decide (p0_0 < ((List.length a0 : Nat) : Int)))) hb2 h
        try simp only [go_sem]
        refine seq_go ?_
        try simp only [go_sem]
        refine draw_i [] .fin (by kernel_rfl) ?_
        try simp only [go_sem]
        replace h := bindE h
        obtain ⟨v7002, hv7002, h⟩ := h
        refine idx_m hv7002 (Core.ds_len _) ?_
        try simp only [go_sem]
        replace h := bindE h
        obtain ⟨v7006, hv7006, h⟩ := h
        refine idx_m hv7006 (Core.ds_len _) ?_
        try simp only [go_sem]
        replace h := bindE h
        obtain ⟨v7008, hv7008, h⟩ := h
        refine call_i (ih2 _ _ _ hv7008) ?_
        try simp only [go_sem]
        refine seq_go ?_
        try simp only [go_sem]
        refine cond_i (fun hb3 => ?_) (fun hb3 => ?_)
        · replace h := ifT (c := (!v7008)) hb3 h
          try simp only [go_sem]
          replace h := Option.some.inj h
          obtain rfl := h
          simp only [go_sem]
        · replace h := ifF (c := (!v7008)) hb3 h
          try simp only [go_sem]
          refine seq_go ?_
          try simp only [go_sem]
          have hj := posF_to rfl rfl (ih1 a0 a1 (IntKind.i64.wrap (p0_0 + 1)) _ h)
          refine lp_to hj (.one ⟨_, .done _, [], [], ?_⟩)
          clear hj
          try simp only [go_sem]
      · replace h := ifF (c := (decide (p0_0 < ((List.length a0 : Nat) : Int)))) hb2 h
        try simp only [go_sem]
        refine seq_go ?_
        try simp only [go_sem]
        replace h := Option.some.inj h
        obtain rfl := h
        simp only [go_sem]
    · intro a0 a1 r h
      rw [l_eqCore] at h
      refine ac_fn mixed Try.func29 rfl rfl rfl (by kernel_rfl) (by kernel_rfl) ?_
      try simp only [go_sem]
      refine cond_i (fun hb1 => ?_) (fun hb1 => ?_)
      · replace h := ifT (c := (!decide (a0.kind = a1.kind))) hb1 h
        try simp only [go_sem]
        replace h := Option.some.inj h
        obtain rfl := h
        simp only [go_sem]
      · replace h := ifF (c := (!decide (a0.kind = a1.kind))) hb1 h
        try simp only [go_sem]
        refine seq_go ?_
        try simp only [go_sem]
        refine cond_i (fun hb2 => ?_) (fun hb2 => ?_)
        · replace h := ifT (c := (!decide (a0.value = a1.value))) hb2 h
          try simp only [go_sem]
          replace h := Option.some.inj h
          obtain rfl := h
          simp only [go_sem]
        · replace h := ifF (c := (!decide (a0.value = a1.value))) hb2 h
          try simp only [go_sem]
          refine seq_go ?_
          try simp only [go_sem]
          replace h := bindE h
          obtain ⟨v6004, hv6004, h⟩ := h
          refine call_i (l_eqInt64S_ok _ _ _ hv6004) ?_
          try simp only [go_sem]
          refine seq_go ?_
          try simp only [go_sem]
          refine cond_i (fun hb3 => ?_) (fun hb3 => ?_)
          · replace h := ifT (c := (!v6004)) hb3 h
            try simp only [go_sem]
            replace h := Option.some.inj h
            obtain rfl := h
            simp only [go_sem]
          · replace h := ifF (c := (!v6004)) hb3 h
            try simp only [go_sem]
            refine seq_go ?_
            try simp only [go_sem]
            replace h := bindE h
            obtain ⟨v8004, hv8004, h⟩ := h
            refine call_i (ih0 _ _ _ hv8004) ?_
            try simp only [go_sem]
            refine seq_go ?_
            try simp only [go_sem]
            refine cond_i (fun hb4 => ?_) (fun hb4 => ?_)
            · replace h := ifT (c := (!v8004)) hb4 h
              try simp only [go_sem]
              replace h := Option.some.inj h
              obtain rfl := h
              simp only [go_sem]
            · replace h := ifF (c := (!v8004)) hb4 h
              try simp only [go_sem]
              refine seq_go ?_
              try simp only [go_sem]
              replace h := Option.some.inj h
              obtain rfl := h
              simp only [go_sem]
theorem l_eqCoreS_ok (n : Nat) : (∀ (a0 : List Core) (a1 : List Core) (r : Bool), l_eqCoreS n a0 a1 = some r → AC Try.prog 54 [.ro (List.map Core.ds a0), .ro (List.map Core.ds a1)] (.bool r)) := (l_eqCoreS_all n).1
theorem l_eqCoreS_l1_ok (n : Nat) : (∀ (a0 : List Core) (a1 : List Core) (p0_0 : Int) (r : Bool), l_eqCoreS_l1 n a0 a1 p0_0 = some r → posF Try.prog Try.f54 [1, 1, 0, 1, 0] (.bool r) ⟨[(0, .ro (List.map Core.ds a0)), (1, .ro (List.map Core.ds a1)), (5, .int .i64 p0_0)], [], []⟩) := (l_eqCoreS_all n).2.1
theorem l_eqCore_ok (n : Nat) : (∀ (a0 : Core) (a1 : Core) (r : Bool), l_eqCore n a0 a1 = some r → AC Try.prog 29 [.agg (Core.avs a0), .agg (Core.avs a1)] (.bool r)) := (l_eqCoreS_all n).2.2

theorem l_eqLabelled_ok (a0 : Labelled) (a1 : Labelled) (r : Bool) (h : l_eqLabelled a0 a1 = some r) : AC Try.prog 9 [.agg (Labelled.avs a0), .agg (Labelled.avs a1)] (.bool r) := by
  unfold l_eqLabelled at h
  refine ac_fn mixed Try.func9 rfl rfl rfl (by kernel_rfl) (by kernel_rfl) ?_
  try simp only [go_sem]
  replace h := bindE h
  obtain ⟨v2004, hv2004, h⟩ := h
  refine call_i (l_eqCore_ok fuel _ _ _ hv2004) ?_
  try simp only [go_sem]
  refine seq_go ?_
  try simp only [go_sem]
  refine cond_i (fun hb1 => ?_) (fun hb1 => ?_)
  · replace h := ifT (c := (!v2004)) hb1 h
    try simp only [go_sem]
    replace h := Option.some.inj h
    obtain rfl := h
    simp only [go_sem]
  · replace h := ifF (c := (!v2004)) hb1 h
    try simp only [go_sem]
    refine seq_go ?_
    try simp only [go_sem]
    replace h := bindE h
    obtain ⟨v4004, hv4004, h⟩ := h
    refine call_i (l_eqStringS_ok _ _ _ hv4004) ?_
    try simp only [go_sem]
    refine seq_go ?_
    try simp only [go_sem]
    refine cond_i (fun hb2 => ?_) (fun hb2 => ?_)
    · replace h := ifT (c := (!v4004)) hb2 h
      try simp only [go_sem]
      replace h := Option.some.inj h
      obtain rfl := h
      simp only [go_sem]
    · replace h := ifF (c := (!v4004)) hb2 h
      try simp only [go_sem]
      refine seq_go ?_
      try simp only [go_sem]
      replace h := Option.some.inj h
      obtain rfl := h
      simp only [go_sem]
theorem l_FnExactNameAt_j1_ok (a0 : Labelled) (v7001 : Labelled) (p0_0 : Bool) (r : Bool) (h : l_FnExactNameAt_j1 a0 v7001 p0_0 = some r) : posF Try.prog Try.f3 [1, 1, 1, 1, 1, 1, 1, 0, 1] (.bool r) ⟨[(2, .box 1000000500 0), (8, .box 1000000501 0), (38, .bool p0_0)], [(1000000000, some ⟨List.map i64D v7001.term.data, some 1, 0, false⟩), (1000000001, some ⟨List.map Core.ds v7001.term.kids, some 4, 0, false⟩), (1000000002, some ⟨List.map strD v7001.labels, some 1, 0, false⟩)], [(1000000500, some [.int .i64 a0.term.kind, .int .i64 a0.term.value, .ro (List.map i64D a0.term.data), .ro (List.map Core.ds a0.term.kids), .ro (List.map strD a0.labels)]), (1000000501, some [.int .i64 v7001.term.kind, .int .i64 v7001.term.value, .own 1000000000, .own 1000000001, .own 1000000002])]⟩ := by
  unfold l_FnExactNameAt_j1 at h
  refine posF_of rfl rfl ?_
  try simp only [go_sem]
  refine cond_i (fun hb3 => ?_) (fun hb3 => ?_)
  · replace h := ifT (c := p0_0) hb3 h
    try simp only [go_sem]
    replace h := Option.some.inj h
    obtain rfl := h
    simp only [go_sem]
  · replace h := ifF (c := p0_0) hb3 h
    try simp only [go_sem]
    refine seq_go ?_
    try simp only [go_sem]
    refine draw_i [] .fin (by kernel_rfl) ?_
    try simp only [go_sem]
    replace h := bindE h
    obtain ⟨v11002, hv11002, h⟩ := h
    refine call_i (l_toLabelled_ok _ _ hv11002) ?_
    try simp only [go_sem]
    replace h := bindE h
    obtain ⟨v11003, hv11003, h⟩ := h
    refine call_i (l_eqLabelled_ok _ _ _ hv11003) ?_
    try simp only [go_sem]
    refine seq_go ?_
    try simp only [go_sem]
    refine cond_i (fun hb4 => ?_) (fun hb4 => ?_)
    · replace h := ifT (c := (!v11003)) hb4 h
      try simp only [go_sem]
      replace h := Option.some.inj h
      obtain rfl := h
      simp only [go_sem]
    · replace h := ifF (c := (!v11003)) hb4 h
      try simp only [go_sem]
      refine seq_go ?_
      try simp only [go_sem]
      replace h := Option.some.inj h
      obtain rfl := h
      simp only [go_sem]
theorem l_FnExactNameAt_ok (a0 : Labelled) (a1 : Int) (r : Bool) (h : l_FnExactNameAt a0 a1 = some r) : AC Try.prog 3 [.agg (Labelled.avs a0), .int .i64 a1] (.bool r) := by
  unfold l_FnExactNameAt at h
  refine ac_fn mixed Try.func3 rfl rfl rfl (by kernel_rfl) (by kernel_rfl) ?_
  try simp only [go_sem]
  replace h := bindE h
  obtain ⟨v3002, hv3002, h⟩ := h
  refine call_i (l_szLabelled_ok _ _ _ hv3002) ?_
  try simp only [go_sem]
  refine seq_go ?_
  try simp only [go_sem]
  refine cond_i (fun hb1 => ?_) (fun hb1 => ?_)
  · replace h := ifT (c := (decide (v3002 < 0))) hb1 h
    try simp only [go_sem]
    replace h := Option.some.inj h
    obtain rfl := h
    simp only [go_sem]
  · replace h := ifF (c := (decide (v3002 < 0))) hb1 h
    try simp only [go_sem]
    refine seq_go ?_
    try simp only [go_sem]
    replace h := bindE h
    obtain ⟨v6001, hv6001, h⟩ := h
    refine call_i (l_toLabelled_ok _ _ hv6001) ?_
    try simp only [go_sem]
    replace h := bindE h
    obtain ⟨v6003, hv6003, h⟩ := h
    refine call_i (s_NameAt_ok _ _ _ hv6003) ?_
    try simp only [go_sem]
    refine seq_go ?_
    try simp only [go_sem]
    replace h := bindE h
    obtain ⟨v7001, hv7001, h⟩ := h
    refine call_i (l_toLabelled_ok _ _ hv7001) ?_
    try simp only [go_sem]
    refine seq_go ?_
    try simp only [go_sem]
    replace h := bindE h
    obtain ⟨v8002, hv8002, h⟩ := h
    refine call_i (i_NameAt_ok _ _ _ hv8002) ?_
    try simp only [go_sem]
    refine seq_go ?_
    try simp only [go_sem]
    refine cond_i (fun hb2 => ?_) (fun hb2 => ?_)
    · replace h := ifT (c := (!sameStr v8002.1 v6003.1)) hb2 h
      try simp only [go_sem]
      have hj := posF_to rfl rfl (l_FnExactNameAt_j1_ok a0 v7001 true _ h)
      refine seq_to hj (.one ⟨_, .done _, [(1000000000, 112016), (1000000001, 112017), (1000000002, 112018)], [(1000000500, 1000), (1000000501, 7002)], ?_⟩)
      clear hj
      try simp only [go_sem]
    · replace h := ifF (c := (!sameStr v8002.1 v6003.1)) hb2 h
      try simp only [go_sem]
      have hj := posF_to rfl rfl (l_FnExactNameAt_j1_ok a0 v7001 (!decide (v8002.2 = v6003.2)) _ h)
      refine seq_to hj (.one ⟨_, .done _, [(1000000000, 112016), (1000000001, 112017), (1000000002, 112018)], [(1000000500, 1000), (1000000501, 7002)], ?_⟩)
      clear hj
      try simp only [go_sem]
end Go.Proofs.Ytgigfdghecdlgaa.Ab
