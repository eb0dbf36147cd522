/-
 The functions do what their models say. Printed by wip/ab/gen.py.
-/
import Derived.Test.YtjdinbgcgbigoaaGreatModM
import Derived.Test.YtjdinbgcgbigoaaGreatTi2
import Derived.Test.YtjdinbgcgbigoaaGreatWlkD
namespace Go.Proofs.YtjdinbgcgbigoaaGreat.Ab
set_option linter.unusedVariables false
set_option linter.unusedSimpArgs false
set_option maxRecDepth 20000
set_option maxHeartbeats 4000000
open Go.RowKit
theorem s_l18Redexes_all (n : Nat) : (∀ (a0 : Core) (a1 : Int) (a2 : List Int) (r : (List Int) × Int),s_l18Redexes n a0 a1 a2 = some r → AG Tryz.prog 159 [.rop [.int .i64 a0.kind,.int .i64 a0.value,.ro (List.map i64D a0.data),.ro (List.map Core.ds a0.kids)] 0,.box 1 0,.own 1001] [(1001,⟨List.map i64D a2,some 1,0,false⟩)] [(1,[.int .i64 a1])] (.own 1501) [(1501,⟨List.map i64D r.1,some 1,0,false⟩)] [(1,[.int .i64 r.2])]) ∧
    (∀ (a0 : Core) (a1 : Int) (p0_0 : List Int) (r : (List Int) × Int),s_l18Redexes_j1 n a0 a1 p0_0 = some r → posG Tryz.prog Tryz.f159 [1,1] (.own 1501) [(1501,⟨List.map i64D r.1,some 1,0,false⟩)] [(1,[.int .i64 r.2])] ⟨[(0,.rop [.int .i64 a0.kind,.int .i64 a0.value,.ro (List.map i64D a0.data),.ro (List.map Core.ds a0.kids)] 0),(1,.box 1 0),(2,.own 1000000000)],[(1000000000,some ⟨List.map i64D p0_0,some 1,0,false⟩)],[(1,some [.int .i64 a1])]⟩) ∧
    (∀ (a0 : Core) (p2_0 : Int) (p2_1 : List Int) (p2_2 : Int) (r : (List Int) × Int),s_l18Redexes_l3 n a0 p2_0 p2_1 p2_2 = some r → posG Tryz.prog Tryz.f159 [1,1,1,0,1,0] (.own 1501) [(1501,⟨List.map i64D r.1,some 1,0,false⟩)] [(1,[.int .i64 r.2])] ⟨[(0,.rop [.int .i64 a0.kind,.int .i64 a0.value,.ro (List.map i64D a0.data),.ro (List.map Core.ds a0.kids)] 0),(1,.box 1 0),(2,.own 1000002000),(7,.int .i64 p2_2)],[(1000002000,some ⟨List.map i64D p2_1,some 1,0,false⟩)],[(1,some [.int .i64 p2_0])]⟩) := by
 induction n with
 | zero => exact ⟨(fun _ _ _ _ h => by rw [s_l18Redexes] at h; cases h),(fun _ _ _ _ h => by rw [s_l18Redexes_j1] at h; cases h),(fun _ _ _ _ _ h => by rw [s_l18Redexes_l3] at h; cases h)⟩
 | succ n ih =>
  obtain ⟨ih0,ih1,ih2⟩ := ih
  refine ⟨?_,?_,?_⟩
  ·intro a0 a1 a2 r h
   rw [s_l18Redexes] at h
   refine ag_fn mixed Tryz.func159 rfl rfl rfl (by kernel_rfl) (by kernel_rfl) ?_
   try simp only [go_sem]
   replace h := bindE h
   obtain ⟨v2001,hv2001,h⟩ := h
   refine call_i (s_l08Kind_ok _ _ hv2001) ?_
   try simp only [go_sem]
   refine seq_go ?_
   try simp only [go_sem]
   refine cond_i (fun hb1 => ?_) (fun hb1 => ?_)
   ·replace h := ifT (c := (!decide (v2001 = 0))) hb1 h
    try simp only [go_sem]
    replace h := bindE h
    obtain ⟨v3005,hv3005,h⟩ := h
    have hq_ := app_some hv3005
    obtain ⟨hv3005a,hv3005b⟩ := hq_
    refine zed_i false ?_
    try simp only [go_sem]
    refine and_i (by refine ⟨?_,?_⟩ <;> (try simp only [List.length_map,List.length_append,List.length_cons,List.length_nil] at *) <;> (try unfold maxLen) <;> omega) ?_
    try simp only [go_sem]
    refine row_i (List.map i64D v3005) (by rw [← hv3005b]; simp only [List.map_append,List.map_cons,List.map_nil,List.nil_append,List.append_nil,go_sem,slD]) ?_
    try simp only [go_sem]
    have hj := posG_to rfl rfl (ih1 a0 a1 v3005 _ h)
    refine seq_to hj (.one ⟨_,.done _,[(1000000000,48080)],[(1,1)],?_⟩)
    clear hj
    try simp only [go_sem]
   ·replace h := ifF (c := (!decide (v2001 = 0))) hb1 h
    try simp only [go_sem]
    have hj := posG_to rfl rfl (ih1 a0 a1 a2 _ h)
    refine seq_to hj (.one ⟨_,.done _,[(1000000000,1001)],[(1,1)],?_⟩)
    clear hj
    try simp only [go_sem]
  ·intro a0 a1 p0_0 r h
   rw [s_l18Redexes_j1] at h
   refine posG_of rfl rfl ?_
   try simp only [go_sem]
   have hj := posG_to rfl rfl (ih2 a0 (IntKind.i64.wrap (a1 + 1)) p0_0 0 _ h)
   refine loop_to hj (.one ⟨_,.done _,[(1000002000,1000000000)],[(1,1)],?_⟩)
   clear hj
   try simp only [go_sem]
  ·intro a0 p2_0 p2_1 p2_2 r h
   rw [s_l18Redexes_l3] at h
   refine posG_of rfl rfl ?_
   try simp only [go_sem]
   refine loop_i ?_
   try simp only [go_sem]
   refine cond_i (fun hb2 => ?_) (fun hb2 => ?_)
   ·replace h := ifT (c := (decide (p2_2 < ((List.length a0.kids : Nat) : Int)))) hb2 h
    try simp only [go_sem]
    refine seq_go ?_
    try simp only [go_sem]
    replace h := bindE h
    obtain ⟨v8005,hv8005,h⟩ := h
    refine idx_m hv8005 (Core.ds_len _) ?_
    try simp only [go_sem]
    replace h := bindE h
    obtain ⟨v8008,hv8008,h⟩ := h
    refine call_g ⟨[],[(1001,1000002000)],[(1,1,0)],[(1501,128128)],[],true⟩ (by kernel_rfl) (ih0 _ _ _ _ hv8008) (by kernel_rfl) ?_
    try simp only [go_sem]
    refine seq_go ?_
    try simp only [go_sem]
    have hj := posG_to rfl rfl (ih2 a0 v8008.2 v8008.1 (IntKind.i64.wrap (p2_2 + 1)) _ h)
    refine lp_to hj (.one ⟨_,.done _,[(1000002000,128128)],[(1,1)],?_⟩)
    clear hj
    try simp only [go_sem]
   ·replace h := ifF (c := (decide (p2_2 < ((List.length a0.kids : Nat) : Int)))) hb2 h
    try simp only [go_sem]
    refine seq_go ?_
    try simp only [go_sem]
    cases h
    refine ret_i (.done _) [(1501,1000002000)] [(1,1)] ?_
    simp only [go_sem]
theorem s_l18Redexes_ok (n : Nat) : (∀ (a0 : Core) (a1 : Int) (a2 : List Int) (r : (List Int) × Int),s_l18Redexes n a0 a1 a2 = some r → AG Tryz.prog 159 [.rop [.int .i64 a0.kind,.int .i64 a0.value,.ro (List.map i64D a0.data),.ro (List.map Core.ds a0.kids)] 0,.box 1 0,.own 1001] [(1001,⟨List.map i64D a2,some 1,0,false⟩)] [(1,[.int .i64 a1])] (.own 1501) [(1501,⟨List.map i64D r.1,some 1,0,false⟩)] [(1,[.int .i64 r.2])]) := (s_l18Redexes_all n).1
theorem s_l00Has_l1_ok (n : Nat) : (∀ (a0 : List Int) (a1 : Int) (p0_0 : Int) (r : Bool),s_l00Has_l1 n a0 a1 p0_0 = some r → posF Tryz.prog Tryz.f160 [1,0,1,0] (.bool r) ⟨[(0,.ro (List.map i64D a0)),(1,.int .i64 a1),(5,.int .i64 p0_0)],[],[]⟩) := by
 induction n with
 | zero => exact ((fun _ _ _ _ h => by rw [s_l00Has_l1] at h; cases h))
 | succ n ih =>
  have ih0 := ih
  ·intro a0 a1 p0_0 r h
   rw [s_l00Has_l1] at h
   refine posF_of rfl rfl ?_
   try simp only [go_sem]
   refine loop_i ?_
   try simp only [go_sem]
   refine cond_i (fun hb1 => ?_) (fun hb1 => ?_)
   ·replace h := ifT (c := (decide (p0_0 < ((List.length a0 : Nat) : Int)))) hb1 h
    try simp only [go_sem]
    refine seq_go ?_
    try simp only [go_sem]
    replace h := bindE h
    obtain ⟨v5002,hv5002,h⟩ := h
    refine idx_m hv5002 rfl ?_
    try simp only [go_sem]
    refine cond_i (fun hb2 => ?_) (fun hb2 => ?_)
    ·replace h := ifT (c := (decide (v5002 = a1))) hb2 h
     try simp only [go_sem]
     cases h
     simp only [go_sem]
    ·replace h := ifF (c := (decide (v5002 = a1))) hb2 h
     try simp only [go_sem]
     refine seq_go ?_
     try simp only [go_sem]
     have hj := posF_to rfl rfl (ih0 a0 a1 (IntKind.i64.wrap (p0_0 + 1)) _ h)
     refine lp_to hj (.one ⟨_,.done _,[],[],?_⟩)
     clear hj
     try simp only [go_sem]
   ·replace h := ifF (c := (decide (p0_0 < ((List.length a0 : Nat) : Int)))) hb1 h
    try simp only [go_sem]
    refine seq_go ?_
    try simp only [go_sem]
    cases h
    simp only [go_sem]
theorem s_l00Has_ok (a0 : List Int) (a1 : Int) (r : Bool) (h : s_l00Has a0 a1 = some r) : AC Tryz.prog 160 [.ro (List.map i64D a0),.int .i64 a1] (.bool r) := by
 unfold s_l00Has at h
 refine ac_fn mixed Tryz.func160 rfl rfl rfl (by kernel_rfl) (by kernel_rfl) ?_
 try simp only [go_sem]
 have hj := posF_to rfl rfl (s_l00Has_l1_ok fuel a0 a1 0 _ h)
 refine loop_to hj (.one ⟨_,.done _,[],[],?_⟩)
 clear hj
 try simp only [go_sem]
theorem s_l18Contract_j6_ok (p2_0 : Int) (p3_0 : Int) (p3_1 : Int) (p3_2 : List Int) (p3_3 : List Core) (p5_0 : Int) (r : Core × Int × Int) (h : s_l18Contract_j6 p2_0 p3_0 p3_1 p3_2 p3_3 p5_0 = some r) : posG Tryz.prog Tryz.f161 [1,1,1,1,1,1,1,1,1,1] (.tup [.agg [.int .i64 r.1.kind,.int .i64 r.1.value,.ro (List.map i64D r.1.data),.ro (List.map Core.ds r.1.kids)],.int .i64 r.2.1]) [] [(1,[.int .i64 r.2.2])] ⟨[(8,.box 1000005500 0),(15,.box 1000005501 0),(16,.int .i64 p5_0)],[],[(1,some [.int .i64 p2_0]),(1000005500,some [.int .i64 0,.int .i64 0,.nils,.nils]),(1000005501,some [.int .i64 p3_0,.int .i64 p3_1,.ro (List.map i64D p3_2),.ro (List.map Core.ds p3_3)])]⟩ := by
 unfold s_l18Contract_j6 at h
 refine posG_of rfl rfl ?_
 try simp only [go_sem]
 cases h
 refine ret_i (.done _) [] [(1,1)] ?_
 simp only [go_sem]
theorem s_l18Contract_j5_ok (p2_0 : Int) (p3_0 : Int) (p3_1 : Int) (p3_2 : List Int) (p3_3 : List Core) (p3_4 : Int) (p4_0 : Bool) (r : Core × Int × Int) (h : s_l18Contract_j5 p2_0 p3_0 p3_1 p3_2 p3_3 p3_4 p4_0 = some r) : posG Tryz.prog Tryz.f161 [1,1,1,1,1,1,1,1,1,0,1] (.tup [.agg [.int .i64 r.1.kind,.int .i64 r.1.value,.ro (List.map i64D r.1.data),.ro (List.map Core.ds r.1.kids)],.int .i64 r.2.1]) [] [(1,[.int .i64 r.2.2])] ⟨[(8,.box 1000004500 0),(15,.box 1000004501 0),(16,.int .i64 p3_4),(129,.bool p4_0)],[],[(1,some [.int .i64 p2_0]),(1000004500,some [.int .i64 0,.int .i64 0,.nils,.nils]),(1000004501,some [.int .i64 p3_0,.int .i64 p3_1,.ro (List.map i64D p3_2),.ro (List.map Core.ds p3_3)])]⟩ := by
 unfold s_l18Contract_j5 at h
 refine posG_of rfl rfl ?_
 try simp only [go_sem]
 refine cond_i (fun hb9 => ?_) (fun hb9 => ?_)
 ·replace h := ifT (c := p4_0) hb9 h
  try simp only [go_sem]
  have hj := posG_to rfl rfl (s_l18Contract_j6_ok p2_0 p3_0 p3_1 p3_2 p3_3 4 _ h)
  refine seq_to hj (.one ⟨_,.done _,[],[(1,1),(1000005500,1000004500),(1000005501,1000004501)],?_⟩)
  clear hj
  try simp only [go_sem]
 ·replace h := ifF (c := p4_0) hb9 h
  try simp only [go_sem]
  have hj := posG_to rfl rfl (s_l18Contract_j6_ok p2_0 p3_0 p3_1 p3_2 p3_3 p3_4 _ h)
  refine seq_to hj (.one ⟨_,.done _,[],[(1,1),(1000005500,1000004500),(1000005501,1000004501)],?_⟩)
  clear hj
  try simp only [go_sem]
theorem s_l18Contract_j4_ok (p2_0 : Int) (p3_0 : Int) (p3_1 : Int) (p3_2 : List Int) (p3_3 : List Core) (p3_4 : Int) (r : Core × Int × Int) (h : s_l18Contract_j4 p2_0 p3_0 p3_1 p3_2 p3_3 p3_4 = some r) : posG Tryz.prog Tryz.f161 [1,1,1,1,1,1,1,1,1] (.tup [.agg [.int .i64 r.1.kind,.int .i64 r.1.value,.ro (List.map i64D r.1.data),.ro (List.map Core.ds r.1.kids)],.int .i64 r.2.1]) [] [(1,[.int .i64 r.2.2])] ⟨[(8,.box 1000003500 0),(15,.box 1000003501 0),(16,.int .i64 p3_4)],[],[(1,some [.int .i64 p2_0]),(1000003500,some [.int .i64 0,.int .i64 0,.nils,.nils]),(1000003501,some [.int .i64 p3_0,.int .i64 p3_1,.ro (List.map i64D p3_2),.ro (List.map Core.ds p3_3)])]⟩ := by
 unfold s_l18Contract_j4 at h
 refine posG_of rfl rfl ?_
 try simp only [go_sem]
 refine cond_i (fun hb8 => ?_) (fun hb8 => ?_)
 ·replace h := ifT (c := (decide (p3_4 = 0))) hb8 h
  try simp only [go_sem]
  replace h := bindE h
  obtain ⟨v25003,hv25003,h⟩ := h
  refine call_i (s_l08Fits_ok _ _ hv25003) ?_
  try simp only [go_sem]
  have hj := posG_to rfl rfl (s_l18Contract_j5_ok p2_0 p3_0 p3_1 p3_2 p3_3 p3_4 (!v25003) _ h)
  refine seq_to hj (.one ⟨_,.done _,[],[(1,1),(1000004500,1000003500),(1000004501,1000003501)],?_⟩)
  clear hj
  try simp only [go_sem]
 ·replace h := ifF (c := (decide (p3_4 = 0))) hb8 h
  try simp only [go_sem]
  have hj := posG_to rfl rfl (s_l18Contract_j5_ok p2_0 p3_0 p3_1 p3_2 p3_3 p3_4 false _ h)
  refine seq_to hj (.one ⟨_,.done _,[],[(1,1),(1000004500,1000003500),(1000004501,1000003501)],?_⟩)
  clear hj
  try simp only [go_sem]
theorem s_l18Contract_all (n : Nat) : (∀ (a0 : Book) (a1 : Core) (a2 : Int) (a3 : List Int) (r : Core × Int × Int),s_l18Contract n a0 a1 a2 a3 = some r → AG Tryz.prog 161 [.rop [.ro (List.map Core.ds a0.defs)] 0,.rop [.int .i64 a1.kind,.int .i64 a1.value,.ro (List.map i64D a1.data),.ro (List.map Core.ds a1.kids)] 0,.box 1 0,.ro (List.map i64D a3)] [] [(1,[.int .i64 a2])] (.tup [.agg [.int .i64 r.1.kind,.int .i64 r.1.value,.ro (List.map i64D r.1.data),.ro (List.map Core.ds r.1.kids)],.int .i64 r.2.1]) [] [(1,[.int .i64 r.2.2])]) ∧
    (∀ (a0 : Book) (a1 : Core) (a2 : Int) (a3 : List Int) (p0_0 : Int) (r : Core × Int × Int),s_l18Contract_j1 n a0 a1 a2 a3 p0_0 = some r → posG Tryz.prog Tryz.f161 [1,1,1] (.tup [.agg [.int .i64 r.1.kind,.int .i64 r.1.value,.ro (List.map i64D r.1.data),.ro (List.map Core.ds r.1.kids)],.int .i64 r.2.1]) [] [(1,[.int .i64 r.2.2])] ⟨[(0,.rop [.ro (List.map Core.ds a0.defs)] 0),(1,.rop [.int .i64 a1.kind,.int .i64 a1.value,.ro (List.map i64D a1.data),.ro (List.map Core.ds a1.kids)] 0),(2,.box 1 0),(3,.ro (List.map i64D a3)),(8,.box 1000000500 0),(10,.int .i64 p0_0)],[],[(1,some [.int .i64 a2]),(1000000500,some [.int .i64 0,.int .i64 0,.nils,.nils])]⟩) ∧
    (∀ (a0 : Book) (a1 : Core) (a3 : List Int) (p0_0 : Int) (p2_0 : Int) (p2_1 : List Core) (p2_2 : Int) (r : Core × Int × Int),s_l18Contract_l3 n a0 a1 a3 p0_0 p2_0 p2_1 p2_2 = some r → posG Tryz.prog Tryz.f161 [1,1,1,1,1,0,1,0] (.tup [.agg [.int .i64 r.1.kind,.int .i64 r.1.value,.ro (List.map i64D r.1.data),.ro (List.map Core.ds r.1.kids)],.int .i64 r.2.1]) [] [(1,[.int .i64 r.2.2])] ⟨[(0,.rop [.ro (List.map Core.ds a0.defs)] 0),(1,.rop [.int .i64 a1.kind,.int .i64 a1.value,.ro (List.map i64D a1.data),.ro (List.map Core.ds a1.kids)] 0),(2,.box 1 0),(3,.ro (List.map i64D a3)),(8,.box 1000002500 0),(10,.int .i64 p0_0),(11,.own 1000002000),(12,.int .i64 p2_2)],[(1000002000,some ⟨List.map Core.dz p2_1,some 4,0,true⟩)],[(1,some [.int .i64 p2_0]),(1000002500,some [.int .i64 0,.int .i64 0,.nils,.nils])]⟩) := by
 induction n with
 | zero => exact ⟨(fun _ _ _ _ _ h => by rw [s_l18Contract] at h; cases h),(fun _ _ _ _ _ _ h => by rw [s_l18Contract_j1] at h; cases h),(fun _ _ _ _ _ _ _ _ h => by rw [s_l18Contract_l3] at h; cases h)⟩
 | succ n ih =>
  obtain ⟨ih0,ih1,ih2⟩ := ih
  refine ⟨?_,?_,?_⟩
  ·intro a0 a1 a2 a3 r h
   rw [s_l18Contract] at h
   refine ag_fn mixed Tryz.func161 rfl rfl rfl (by kernel_rfl) (by kernel_rfl) ?_
   try simp only [go_sem]
   replace h := bindE h
   obtain ⟨v3004,hv3004,h⟩ := h
   refine call_i (s_l00Has_ok _ _ _ hv3004) ?_
   try simp only [go_sem]
   refine seq_go ?_
   try simp only [go_sem]
   refine cond_i (fun hb1 => ?_) (fun hb1 => ?_)
   ·replace h := ifT (c := v3004) hb1 h
    try simp only [go_sem]
    replace h := bindE h
    obtain ⟨v4001,hv4001,h⟩ := h
    refine call_i (s_l08Kind_ok _ _ hv4001) ?_
    try simp only [go_sem]
    have hj := posG_to rfl rfl (ih1 a0 a1 a2 a3 v4001 _ h)
    refine seq_to hj (.one ⟨_,.done _,[],[(1,1),(1000000500,1000)],?_⟩)
    clear hj
    try simp only [go_sem]
   ·replace h := ifF (c := v3004) hb1 h
    try simp only [go_sem]
    have hj := posG_to rfl rfl (ih1 a0 a1 a2 a3 0 _ h)
    refine seq_to hj (.one ⟨_,.done _,[],[(1,1),(1000000500,1000)],?_⟩)
    clear hj
    try simp only [go_sem]
  ·intro a0 a1 a2 a3 p0_0 r h
   rw [s_l18Contract_j1] at h
   refine posG_of rfl rfl ?_
   try simp only [go_sem]
   have hj := posG_to rfl rfl (ih2 a0 a1 a3 p0_0 (IntKind.i64.wrap (a2 + 1)) [] 0 _ h)
   refine loop_to hj (.one ⟨_,.lit 11 2000000000 6000 0 4 true [] _ _ (by (first | rfl | (simp only [go_sem]; rfl))) (by simp only [go_sem]; rfl) (by (first | rfl | (simp only [go_sem]; rfl))) (by (first | rfl | (simp only [go_sem]; rfl))) (by decide) (by decide) (by simp only [go_sem]) (.done _),[(1000002000,2000000000)],[(1,1),(1000002500,1000000500)],?_⟩)
   clear hj
   simp only [go_sem]
   all_goals try rfl
  ·intro a0 a1 a3 p0_0 p2_0 p2_1 p2_2 r h
   rw [s_l18Contract_l3] at h
   refine posG_of rfl rfl ?_
   try simp only [go_sem]
   refine loop_i ?_
   try simp only [go_sem]
   refine cond_i (fun hb2 => ?_) (fun hb2 => ?_)
   ·replace h := ifT (c := (decide (p2_2 < ((List.length a1.kids : Nat) : Int)))) hb2 h
    try simp only [go_sem]
    refine seq_go ?_
    try simp only [go_sem]
    replace h := bindE h
    obtain ⟨v10006,hv10006,h⟩ := h
    refine idx_m hv10006 (Core.ds_len _) ?_
    try simp only [go_sem]
    replace h := bindE h
    obtain ⟨v10009,hv10009,h⟩ := h
    refine call_g ⟨[],[],[(1,1,0)],[],[],true⟩ (by kernel_rfl) (ih0 _ _ _ _ _ hv10009) (by kernel_rfl) ?_
    try simp only [go_sem]
    refine seq_go ?_
    try simp only [go_sem]
    refine cond_i (fun hb3 => ?_) (fun hb3 => ?_)
    ·replace h := ifT (c := (!decide (v10009.2.1 = 0))) hb3 h
     try simp only [go_sem]
     cases h
     refine ret_i (.frzN [(0,[0,2]),(0,[0,3])] [] _ _ (by (first | rfl | (simp only [go_sem]; rfl))) (by (first | rfl | (simp only [go_sem]; rfl))) (.done _)) [] [(1,1)] ?_
     simp only [go_sem]
     all_goals try rfl
    ·replace h := ifF (c := (!decide (v10009.2.1 = 0))) hb3 h
     try simp only [go_sem]
     refine seq_go ?_
     try simp only [go_sem]
     replace h := bindE h
     obtain ⟨v13003,hv13003,h⟩ := h
     have hq_ := app_some hv13003
     obtain ⟨hv13003a,hv13003b⟩ := hq_
     refine zed_i true ?_
     try simp only [go_sem]
     refine and_i (by refine ⟨?_,?_⟩ <;> (try simp only [List.length_map,List.length_append,List.length_cons,List.length_nil] at *) <;> (try unfold maxLen) <;> omega) ?_
     try simp only [go_sem]
     refine row_i (List.map Core.dz v13003) (by rw [← hv13003b]; simp only [List.map_append,List.map_cons,List.map_nil,List.nil_append,List.append_nil,go_sem,Core.ds_eq,Core.dz_eq]) ?_
     try simp only [go_sem]
     refine seq_go ?_
     try simp only [go_sem]
     have hj := posG_to rfl rfl (ih2 a0 a1 a3 p0_0 v10009.2.2 v13003 (IntKind.i64.wrap (p2_2 + 1)) _ h)
     refine lp_to hj (.one ⟨_,.done _,[(1000002000,208048)],[(1,1),(1000002500,1000002500)],?_⟩)
     clear hj
     try simp only [go_sem]
   ·replace h := ifF (c := (decide (p2_2 < ((List.length a1.kids : Nat) : Int)))) hb2 h
    try simp only [go_sem]
    refine seq_go ?_
    try simp only [go_sem]
    refine draw_i [false,false,false,false,false,false,false,false,false,false,false,false,false,false,false,true] (Tr.sq [15] .fin) (by kernel_rfl) ?_
    try simp only [go_sem]
    refine seq_fz (.frzT 1000002000 [(11,[])] [(14014,3)] _ _ _ (by (first | rfl | (simp only [go_sem]; rfl))) (by decide) (by (first | rfl | (simp only [go_sem]; rfl))) (by (first | rfl | (simp only [go_sem]; rfl))) (.done _)) ?_
    try simp only [go_sem]
    all_goals try rfl
    refine cond_i (fun hb4 => ?_) (fun hb4 => ?_)
    ·replace h := ifT (c := (decide (p0_0 = 1))) hb4 h
     try simp only [go_sem]
     refine draw_i [false,false,false,false,false,false,false,false,false,false,false,true,true] (Tr.sq [11,12] .fin) (by kernel_rfl) ?_
     try simp only [go_sem]
     replace h := bindE h
     obtain ⟨v18001,hv18001,h⟩ := h
     refine idx_m hv18001 (Core.ds_len _) ?_
     try simp only [go_sem]
     replace h := bindE h
     obtain ⟨v18004,hv18004,h⟩ := h
     refine idx_m hv18004 (Core.ds_len _) ?_
     try simp only [go_sem]
     replace h := bindE h
     obtain ⟨v18006,hv18006,h⟩ := h
     refine idx_m hv18006 (Core.ds_len _) ?_
     try simp only [go_sem]
     replace h := bindE h
     obtain ⟨v18007,hv18007,h⟩ := h
     refine call_i (s_l06Instance_ok _ _ _ hv18007) ?_
     try simp only [go_sem]
     have hj := posG_to rfl rfl (s_l18Contract_j4_ok p2_0 v18007.1.kind v18007.1.value v18007.1.data v18007.1.kids v18007.2 _ h)
     refine seq_to hj (.one ⟨_,.frzT 288112 [(85,[0,2]),(77,[0,2]),(86,[2])] [(14014,2)] _ _ _ (by (first | rfl | (simp only [go_sem]; rfl))) (by decide) (by (first | rfl | (simp only [go_sem]; rfl))) (by (first | rfl | (simp only [go_sem]; rfl))) (.frzT 288113 [(85,[0,3]),(77,[0,3]),(86,[3])] [(14014,3)] _ _ _ (by (first | rfl | (simp only [go_sem]; rfl))) (by decide) (by (first | rfl | (simp only [go_sem]; rfl))) (by (first | rfl | (simp only [go_sem]; rfl))) (.done _)),[],[(1,1),(1000003500,1000002500),(1000003501,14014)],?_⟩)
     clear hj
     simp only [go_sem]
     all_goals try rfl
    ·replace h := ifF (c := (decide (p0_0 = 1))) hb4 h
     try simp only [go_sem]
     refine cond_i (fun hb5 => ?_) (fun hb5 => ?_)
     ·replace h := ifT (c := (decide (p0_0 = 2))) hb5 h
      try simp only [go_sem]
      refine draw_i [false,false,false,false,false,false,false,false,false,false,false,false,false,false,false,false,false,false,false,false,true] (Tr.sq [20] .fin) (by kernel_rfl) ?_
      try simp only [go_sem]
      replace h := bindE h
      obtain ⟨v20008,hv20008,h⟩ := h
      refine idx_m hv20008 (Core.ds_len _) ?_
      try simp only [go_sem]
      replace h := bindE h
      obtain ⟨v20015,hv20015,h⟩ := h
      refine idx_m hv20015 (Core.ds_len _) ?_
      try simp only [go_sem]
      replace h := bindE h
      obtain ⟨v20018,hv20018,h⟩ := h
      refine call_i (s_Operate_ok _ _ _ _ hv20018) ?_
      try simp only [go_sem]
      replace h := bindE h
      obtain ⟨v20019,hv20019,h⟩ := h
      refine call_z (s_l06N_ok _ _ hv20019) (by (first | rfl | (simp only [go_sem]; rfl))) (by first | rfl | (simp only [go_sem])) ?_
      try simp only [go_sem]
      have hj := posG_to rfl rfl (s_l18Contract_j4_ok p2_0 v20019.kind v20019.value v20019.data v20019.kids 0 _ h)
      refine seq_to hj (.one ⟨_,.done _,[],[(1,1),(1000003500,1000002500),(1000003501,14014)],?_⟩)
      clear hj
      try simp only [go_sem]
     ·replace h := ifF (c := (decide (p0_0 = 2))) hb5 h
      try simp only [go_sem]
      refine cond_i (fun hb6 => ?_) (fun hb6 => ?_)
      ·replace h := ifT (c := (decide (p0_0 = 3))) hb6 h
       try simp only [go_sem]
       replace h := bindE h
       obtain ⟨v22002,hv22002,h⟩ := h
       refine idx_m hv22002 (Core.ds_len _) ?_
       try simp only [go_sem]
       replace h := bindE h
       obtain ⟨v22005,hv22005,h⟩ := h
       refine call_z (s_l08Chosen_ok _ _ _ hv22005) (by (first | rfl | (simp only [go_sem]; rfl))) (by first | rfl | (simp only [go_sem])) ?_
       try simp only [go_sem]
       have hj := posG_to rfl rfl (s_l18Contract_j4_ok p2_0 v22005.kind v22005.value v22005.data v22005.kids 0 _ h)
       refine seq_to hj (.one ⟨_,.done _,[],[(1,1),(1000003500,1000002500),(1000003501,14014)],?_⟩)
       clear hj
       try simp only [go_sem]
      ·replace h := ifF (c := (decide (p0_0 = 3))) hb6 h
       try simp only [go_sem]
       refine cond_i (fun hb7 => ?_) (fun hb7 => ?_)
       ·replace h := ifT (c := (decide (p0_0 = 4))) hb7 h
        try simp only [go_sem]
        replace h := bindE h
        obtain ⟨v24003,hv24003,h⟩ := h
        refine call_z (s_l08Expand_ok _ _ _ _ hv24003) (by (first | rfl | (simp only [go_sem]; rfl))) (by first | rfl | (simp only [go_sem])) ?_
        try simp only [go_sem]
        have hj := posG_to rfl rfl (s_l18Contract_j4_ok p2_0 v24003.kind v24003.value v24003.data v24003.kids 0 _ h)
        refine seq_to hj (.one ⟨_,.done _,[],[(1,1),(1000003500,1000002500),(1000003501,14014)],?_⟩)
        clear hj
        try simp only [go_sem]
       ·replace h := ifF (c := (decide (p0_0 = 4))) hb7 h
        try simp only [go_sem]
        have hj := posG_to rfl rfl (s_l18Contract_j4_ok p2_0 a1.kind a1.value a1.data p2_1 0 _ h)
        refine seq_to hj (.one ⟨_,.done _,[],[(1,1),(1000003500,1000002500),(1000003501,14014)],?_⟩)
        clear hj
        try simp only [go_sem]
theorem s_l18Contract_ok (n : Nat) : (∀ (a0 : Book) (a1 : Core) (a2 : Int) (a3 : List Int) (r : Core × Int × Int),s_l18Contract n a0 a1 a2 a3 = some r → AG Tryz.prog 161 [.rop [.ro (List.map Core.ds a0.defs)] 0,.rop [.int .i64 a1.kind,.int .i64 a1.value,.ro (List.map i64D a1.data),.ro (List.map Core.ds a1.kids)] 0,.box 1 0,.ro (List.map i64D a3)] [] [(1,[.int .i64 a2])] (.tup [.agg [.int .i64 r.1.kind,.int .i64 r.1.value,.ro (List.map i64D r.1.data),.ro (List.map Core.ds r.1.kids)],.int .i64 r.2.1]) [] [(1,[.int .i64 r.2.2])]) := (s_l18Contract_all n).1
theorem s_l18Marked_l7_all (n : Nat) : (∀ (a0 : Book) (a1 : Core) (a2 : List Int) (v5001 : (List Int) × Int) (p2_0 : Int) (r : Core × Int),s_l18Marked_l7 n a0 a1 a2 v5001 p2_0 = some r → posF Tryz.prog Tryz.f73 [1,1,1,1,0,1,0] (.tup [.agg (Core.rv r.1),.int .i64 r.2]) ⟨[(0,.rop [.ro (List.map Core.ds a0.defs)] 0),(1,.rop [.int .i64 a1.kind,.int .i64 a1.value,.ro (List.map i64D a1.data),.ro (List.map Core.ds a1.kids)] 0),(2,.ro (List.map i64D a2)),(6,.box 1000002500 0),(8,.box 1000002501 0),(9,.own 1000002000),(10,.int .i64 p2_0)],[(1000002000,some ⟨List.map i64D v5001.1,some 1,0,false⟩)],[(1000002500,some [.int .i64 0,.int .i64 0,.nils,.nils]),(1000002501,some [.int .i64 v5001.2])]⟩) ∧
    (∀ (a0 : Book) (a1 : Core) (a2 : List Int) (p2_0 : Int) (v5001 : (List Int) × Int) (p3_0 : Bool) (r : Core × Int),s_l18Marked_j8 n a0 a1 a2 p2_0 v5001 p3_0 = some r → posF Tryz.prog Tryz.f73 [1,1,1,1,0,1,0,0,1,0,0,1] (.tup [.agg (Core.rv r.1),.int .i64 r.2]) ⟨[(0,.rop [.ro (List.map Core.ds a0.defs)] 0),(1,.rop [.int .i64 a1.kind,.int .i64 a1.value,.ro (List.map i64D a1.data),.ro (List.map Core.ds a1.kids)] 0),(2,.ro (List.map i64D a2)),(6,.box 1000003500 0),(8,.box 1000003501 0),(9,.own 1000003000),(10,.int .i64 p2_0),(48,.bool p3_0)],[(1000003000,some ⟨List.map i64D v5001.1,some 1,0,false⟩)],[(1000003500,some [.int .i64 0,.int .i64 0,.nils,.nils]),(1000003501,some [.int .i64 v5001.2])]⟩) := by
 induction n with
 | zero => exact ⟨(fun _ _ _ _ _ _ h => by rw [s_l18Marked_l7] at h; cases h),(fun _ _ _ _ _ _ _ h => by rw [s_l18Marked_j8] at h; cases h)⟩
 | succ n ih =>
  obtain ⟨ih0,ih1⟩ := ih
  refine ⟨?_,?_⟩
  ·intro a0 a1 a2 v5001 p2_0 r h
   rw [s_l18Marked_l7] at h
   refine posF_of rfl rfl ?_
   try simp only [go_sem]
   refine loop_i ?_
   try simp only [go_sem]
   refine cond_i (fun hb2 => ?_) (fun hb2 => ?_)
   ·replace h := ifT (c := (decide (p2_0 < ((List.length a2 : Nat) : Int)))) hb2 h
    try simp only [go_sem]
    refine seq_go ?_
    try simp only [go_sem]
    refine draw_i [] .fin (by kernel_rfl) ?_
    try simp only [go_sem]
    refine cond_i (fun hb3 => ?_) (fun hb3 => ?_)
    ·replace h := ifT (c := (decide (0 < p2_0))) hb3 h
     try simp only [go_sem]
     replace h := bindE h
     obtain ⟨v9006,hv9006,h⟩ := h
     refine idx_m hv9006 rfl ?_
     try simp only [go_sem]
     replace h := bindE h
     obtain ⟨v9010,hv9010,h⟩ := h
     refine idx_m hv9010 rfl ?_
     try simp only [go_sem]
     refine cond_i (fun hb4 => ?_) (fun hb4 => ?_)
     ·replace h := ifT (c := (decide (v9010 ≤ v9006))) hb4 h
      try simp only [go_sem]
      have hj := posF_to rfl rfl (ih1 a0 a1 a2 p2_0 v5001 true _ h)
      refine seq_to hj (.one ⟨_,.done _,[(1000003000,1000002000)],[(1000003500,1000002500),(1000003501,1000002501)],?_⟩)
      clear hj
      try simp only [go_sem]
     ·replace h := ifF (c := (decide (v9010 ≤ v9006))) hb4 h
      try simp only [go_sem]
      replace h := bindE h
      obtain ⟨v9018,hv9018,h⟩ := h
      refine idx_m hv9018 rfl ?_
      try simp only [go_sem]
      replace h := bindE h
      obtain ⟨v9020,hv9020,h⟩ := h
      refine call_i (s_l00Has_ok _ _ _ hv9020) ?_
      try simp only [go_sem]
      have hj := posF_to rfl rfl (ih1 a0 a1 a2 p2_0 v5001 (!v9020) _ h)
      refine seq_to hj (.one ⟨_,.done _,[(1000003000,1000002000)],[(1000003500,1000002500),(1000003501,1000002501)],?_⟩)
      clear hj
      try simp only [go_sem]
    ·replace h := ifF (c := (decide (0 < p2_0))) hb3 h
     try simp only [go_sem]
     replace h := bindE h
     obtain ⟨v9018,hv9018,h⟩ := h
     refine idx_m hv9018 rfl ?_
     try simp only [go_sem]
     replace h := bindE h
     obtain ⟨v9020,hv9020,h⟩ := h
     refine call_i (s_l00Has_ok _ _ _ hv9020) ?_
     try simp only [go_sem]
     have hj := posF_to rfl rfl (ih1 a0 a1 a2 p2_0 v5001 (!v9020) _ h)
     refine seq_to hj (.one ⟨_,.done _,[(1000003000,1000002000)],[(1000003500,1000002500),(1000003501,1000002501)],?_⟩)
     clear hj
     try simp only [go_sem]
   ·replace h := ifF (c := (decide (p2_0 < ((List.length a2 : Nat) : Int)))) hb2 h
    try simp only [go_sem]
    refine seq_go ?_
    try simp only [go_sem]
    replace h := bindE h
    obtain ⟨v12003,hv12003,h⟩ := h
    refine call_g ⟨[],[],[(1,1000002501,0)],[],[],true⟩ (by kernel_rfl) (s_l18Contract_ok fuel _ _ _ _ _ hv12003) (by kernel_rfl) ?_
    try simp only [go_sem]
    refine seq_go ?_
    try simp only [go_sem]
    refine cond_i (fun hb5 => ?_) (fun hb5 => ?_)
    ·replace h := ifT (c := (!decide (v12003.2.1 = 0))) hb5 h
     try simp only [go_sem]
     cases h
     simp only [go_sem]
    ·replace h := ifF (c := (!decide (v12003.2.1 = 0))) hb5 h
     try simp only [go_sem]
     refine seq_go ?_
     try simp only [go_sem]
     replace h := bindE h
     obtain ⟨v15000,hv15000,h⟩ := h
     refine call_i (s_l06Own_ok _ _ hv15000) ?_
     try simp only [go_sem]
     refine seq_go ?_
     try simp only [go_sem]
     cases h
     simp only [go_sem]
  ·intro a0 a1 a2 p2_0 v5001 p3_0 r h
   rw [s_l18Marked_j8] at h
   refine posF_of rfl rfl ?_
   try simp only [go_sem]
   refine cond_i (fun hb6 => ?_) (fun hb6 => ?_)
   ·replace h := ifT (c := p3_0) hb6 h
    try simp only [go_sem]
    cases h
    simp only [go_sem]
   ·replace h := ifF (c := p3_0) hb6 h
    try simp only [go_sem]
    refine seq_go ?_
    try simp only [go_sem]
    have hj := posF_to rfl rfl (ih0 a0 a1 a2 v5001 (IntKind.i64.wrap (p2_0 + 1)) _ h)
    refine lp_to hj (.one ⟨_,.done _,[(1000002000,1000003000)],[(1000002500,1000003500),(1000002501,1000003501)],?_⟩)
    clear hj
    try simp only [go_sem]
theorem s_l18Marked_l7_ok (n : Nat) : (∀ (a0 : Book) (a1 : Core) (a2 : List Int) (v5001 : (List Int) × Int) (p2_0 : Int) (r : Core × Int),s_l18Marked_l7 n a0 a1 a2 v5001 p2_0 = some r → posF Tryz.prog Tryz.f73 [1,1,1,1,0,1,0] (.tup [.agg (Core.rv r.1),.int .i64 r.2]) ⟨[(0,.rop [.ro (List.map Core.ds a0.defs)] 0),(1,.rop [.int .i64 a1.kind,.int .i64 a1.value,.ro (List.map i64D a1.data),.ro (List.map Core.ds a1.kids)] 0),(2,.ro (List.map i64D a2)),(6,.box 1000002500 0),(8,.box 1000002501 0),(9,.own 1000002000),(10,.int .i64 p2_0)],[(1000002000,some ⟨List.map i64D v5001.1,some 1,0,false⟩)],[(1000002500,some [.int .i64 0,.int .i64 0,.nils,.nils]),(1000002501,some [.int .i64 v5001.2])]⟩) := (s_l18Marked_l7_all n).1
theorem s_l18Marked_ok (a0 : Book) (a1 : Core) (a2 : List Int) (r : Core × Int) (h : s_l18Marked a0 a1 a2 = some r) : AC Tryz.prog 73 [.rop (Book.avs a0) 0,.rop (Core.avs a1) 0,.ro (List.map i64D a2)] (.tup [.agg (Core.rv r.1),.int .i64 r.2]) := by
 unfold s_l18Marked at h
 refine ac_fn mixed Tryz.func73 rfl rfl rfl (by kernel_rfl) (by kernel_rfl) ?_
 try simp only [go_sem]
 replace h := bindE h
 obtain ⟨v2002,hv2002,h⟩ := h
 refine call_i (s_l08State_ok _ _ _ hv2002) ?_
 try simp only [go_sem]
 refine seq_go ?_
 try simp only [go_sem]
 refine cond_i (fun hb1 => ?_) (fun hb1 => ?_)
 ·replace h := ifT (c := (!v2002)) hb1 h
  try simp only [go_sem]
  cases h
  simp only [go_sem]
 ·replace h := ifF (c := (!v2002)) hb1 h
  try simp only [go_sem]
  refine seq_go ?_
  try simp only [go_sem]
  replace h := bindE h
  obtain ⟨v5001,hv5001,h⟩ := h
  refine call_g ⟨[(3000080016,.nils,some 1)],[(1001,3000080016)],[(1,4000,0)],[(1501,80016)],[],true⟩ (by kernel_rfl) (s_l18Redexes_ok fuel _ _ _ _ hv5001) (by kernel_rfl) ?_
  try simp only [go_sem]
  refine seq_go ?_
  try simp only [go_sem]
  have hj := posF_to rfl rfl (s_l18Marked_l7_ok fuel a0 a1 a2 v5001 0 _ h)
  refine loop_to hj (.one ⟨_,.done _,[(1000002000,80016)],[(1000002500,1000),(1000002501,4000)],?_⟩)
  clear hj
  try simp only [go_sem]
theorem s_ContractMarked_ok (a0 : Book) (a1 : Core) (a2 : List Int) (r : Core × Int) (h : s_ContractMarked a0 a1 a2 = some r) : AC Tryz.prog 22 [.agg (Book.avs a0),.agg (Core.avs a1),.ro (List.map i64D a2)] (.tup [.agg (Core.rv r.1),.int .i64 r.2]) := by
 unfold s_ContractMarked at h
 refine ac_fn mixed Tryz.func22 rfl rfl rfl (by kernel_rfl) (by kernel_rfl) ?_
 try simp only [go_sem]
 replace h := bindE h
 obtain ⟨v2001,hv2001,h⟩ := h
 refine call_i (s_l18Marked_ok _ _ _ _ hv2001) ?_
 try simp only [go_sem]
 refine seq_go ?_
 try simp only [go_sem]
 cases h
 simp only [go_sem]
theorem i_redexPositions_all (n : Nat) : (∀ (a0 : Core) (a1 : Int) (a2 : List Int) (r : (List Int) × Int),i_redexPositions n a0 a1 a2 = some r → AG Tryz.prog 74 [.agg [.int .i64 a0.kind,.int .i64 a0.value,.ro (List.map i64D a0.data),.ro (List.map Core.ds a0.kids)],.box 1 0,.own 1001] [(1001,⟨List.map i64D a2,some 1,0,false⟩)] [(1,[.int .i64 a1])] (.own 1501) [(1501,⟨List.map i64D r.1,some 1,0,false⟩)] [(1,[.int .i64 r.2])]) ∧
    (∀ (a0 : Core) (a1 : Int) (p0_0 : List Int) (r : (List Int) × Int),i_redexPositions_j1 n a0 a1 p0_0 = some r → posG Tryz.prog Tryz.f74 [1,1] (.own 1501) [(1501,⟨List.map i64D r.1,some 1,0,false⟩)] [(1,[.int .i64 r.2])] ⟨[(1,.box 1 0),(2,.own 1000000000),(3,.box 1000000500 0)],[(1000000000,some ⟨List.map i64D p0_0,some 1,0,false⟩)],[(1,some [.int .i64 a1]),(1000000500,some [.int .i64 a0.kind,.int .i64 a0.value,.ro (List.map i64D a0.data),.ro (List.map Core.ds a0.kids)])]⟩) ∧
    (∀ (a0 : Core) (p2_0 : Int) (p2_1 : List Int) (p2_2 : Int) (r : (List Int) × Int),i_redexPositions_l3 n a0 p2_0 p2_1 p2_2 = some r → posG Tryz.prog Tryz.f74 [1,1,1,0,1,0] (.own 1501) [(1501,⟨List.map i64D r.1,some 1,0,false⟩)] [(1,[.int .i64 r.2])] ⟨[(1,.box 1 0),(2,.own 1000002000),(24,.ro (List.map Core.ds a0.kids)),(25,.int .i64 ((List.length a0.kids : Nat) : Int)),(26,.int .i64 p2_2)],[(1000002000,some ⟨List.map i64D p2_1,some 1,0,false⟩)],[(1,some [.int .i64 p2_0])]⟩) := by
 induction n with
 | zero => exact ⟨(fun _ _ _ _ h => by rw [i_redexPositions] at h; cases h),(fun _ _ _ _ h => by rw [i_redexPositions_j1] at h; cases h),(fun _ _ _ _ _ h => by rw [i_redexPositions_l3] at h; cases h)⟩
 | succ n ih =>
  obtain ⟨ih0,ih1,ih2⟩ := ih
  refine ⟨?_,?_,?_⟩
  ·intro a0 a1 a2 r h
   rw [i_redexPositions] at h
   refine ag_fn mixed Tryz.func74 rfl rfl rfl (by kernel_rfl) (by kernel_rfl) ?_
   try simp only [go_sem]
   replace h := bindE h
   obtain ⟨v2001,hv2001,h⟩ := h
   refine call_i (i_redexKind_ok _ _ hv2001) ?_
   try simp only [go_sem]
   refine seq_go ?_
   try simp only [go_sem]
   refine cond_i (fun hb1 => ?_) (fun hb1 => ?_)
   ·replace h := ifT (c := (!decide (v2001 = 0))) hb1 h
    try simp only [go_sem]
    replace h := bindE h
    obtain ⟨v3005,hv3005,h⟩ := h
    have hq_ := app_some hv3005
    obtain ⟨hv3005a,hv3005b⟩ := hq_
    refine zed_i false ?_
    try simp only [go_sem]
    refine and_i (by refine ⟨?_,?_⟩ <;> (try simp only [List.length_map,List.length_append,List.length_cons,List.length_nil] at *) <;> (try unfold maxLen) <;> omega) ?_
    try simp only [go_sem]
    refine row_i (List.map i64D v3005) (by rw [← hv3005b]; simp only [List.map_append,List.map_cons,List.map_nil,List.nil_append,List.append_nil,go_sem,slD]) ?_
    try simp only [go_sem]
    have hj := posG_to rfl rfl (ih1 a0 a1 v3005 _ h)
    refine seq_to hj (.one ⟨_,.done _,[(1000000000,48080)],[(1,1),(1000000500,1000)],?_⟩)
    clear hj
    try simp only [go_sem]
   ·replace h := ifF (c := (!decide (v2001 = 0))) hb1 h
    try simp only [go_sem]
    have hj := posG_to rfl rfl (ih1 a0 a1 a2 _ h)
    refine seq_to hj (.one ⟨_,.done _,[(1000000000,1001)],[(1,1),(1000000500,1000)],?_⟩)
    clear hj
    try simp only [go_sem]
  ·intro a0 a1 p0_0 r h
   rw [i_redexPositions_j1] at h
   refine posG_of rfl rfl ?_
   try simp only [go_sem]
   have hj := posG_to rfl rfl (ih2 a0 (IntKind.i64.wrap (a1 + 1)) p0_0 0 _ h)
   refine loop_to hj (.one ⟨_,.done _,[(1000002000,1000000000)],[(1,1)],?_⟩)
   clear hj
   try simp only [go_sem]
  ·intro a0 p2_0 p2_1 p2_2 r h
   rw [i_redexPositions_l3] at h
   refine posG_of rfl rfl ?_
   try simp only [go_sem]
   refine loop_i ?_
   try simp only [go_sem]
   refine cond_i (fun hb2 => ?_) (fun hb2 => ?_)
   ·replace h := ifT (c := (decide (p2_2 < ((List.length a0.kids : Nat) : Int)))) hb2 h
    try simp only [go_sem]
    refine seq_go ?_
    try simp only [go_sem]
    replace h := bindE h
    obtain ⟨v7000,hv7000,h⟩ := h
    refine idx_m hv7000 (Core.ds_len _) ?_
    try simp only [go_sem]
    replace h := bindE h
    obtain ⟨v8003,hv8003,h⟩ := h
    refine call_g ⟨[],[(1001,1000002000)],[(1,1,0)],[(1501,128048)],[],true⟩ (by kernel_rfl) (ih0 _ _ _ _ hv8003) (by kernel_rfl) ?_
    try simp only [go_sem]
    refine seq_go ?_
    try simp only [go_sem]
    have hj := posG_to rfl rfl (ih2 a0 v8003.2 v8003.1 (IntKind.i64.wrap (p2_2 + 1)) _ h)
    refine lp_to hj (.one ⟨_,.done _,[(1000002000,128048)],[(1,1)],?_⟩)
    clear hj
    try simp only [go_sem]
   ·replace h := ifF (c := (decide (p2_2 < ((List.length a0.kids : Nat) : Int)))) hb2 h
    try simp only [go_sem]
    refine seq_go ?_
    try simp only [go_sem]
    cases h
    refine ret_i (.done _) [(1501,1000002000)] [(1,1)] ?_
    simp only [go_sem]
theorem i_redexPositions_ok (n : Nat) : (∀ (a0 : Core) (a1 : Int) (a2 : List Int) (r : (List Int) × Int),i_redexPositions n a0 a1 a2 = some r → AG Tryz.prog 74 [.agg [.int .i64 a0.kind,.int .i64 a0.value,.ro (List.map i64D a0.data),.ro (List.map Core.ds a0.kids)],.box 1 0,.own 1001] [(1001,⟨List.map i64D a2,some 1,0,false⟩)] [(1,[.int .i64 a1])] (.own 1501) [(1501,⟨List.map i64D r.1,some 1,0,false⟩)] [(1,[.int .i64 r.2])]) := (i_redexPositions_all n).1
theorem i_isIncreasing_l1_ok (n : Nat) : (∀ (a0 : List Int) (p0_0 : Int) (r : Bool),i_isIncreasing_l1 n a0 p0_0 = some r → posF Tryz.prog Tryz.f75 [1,0,1,0] (.bool r) ⟨[(0,.ro (List.map i64D a0)),(3,.int .i64 p0_0)],[],[]⟩) := by
 induction n with
 | zero => exact ((fun _ _ _ h => by rw [i_isIncreasing_l1] at h; cases h))
 | succ n ih =>
  have ih0 := ih
  ·intro a0 p0_0 r h
   rw [i_isIncreasing_l1] at h
   refine posF_of rfl rfl ?_
   try simp only [go_sem]
   refine loop_i ?_
   try simp only [go_sem]
   refine cond_i (fun hb1 => ?_) (fun hb1 => ?_)
   ·replace h := ifT (c := (decide (p0_0 < ((List.length a0 : Nat) : Int)))) hb1 h
    try simp only [go_sem]
    refine seq_go ?_
    try simp only [go_sem]
    refine draw_i [] .fin (by kernel_rfl) ?_
    try simp only [go_sem]
    replace h := bindE h
    obtain ⟨v5003,hv5003,h⟩ := h
    refine idx_m hv5003 rfl ?_
    try simp only [go_sem]
    replace h := bindE h
    obtain ⟨v5007,hv5007,h⟩ := h
    refine idx_m hv5007 rfl ?_
    try simp only [go_sem]
    refine seq_go ?_
    try simp only [go_sem]
    refine cond_i (fun hb2 => ?_) (fun hb2 => ?_)
    ·replace h := ifT (c := (decide (v5007 ≤ v5003))) hb2 h
     try simp only [go_sem]
     cases h
     simp only [go_sem]
    ·replace h := ifF (c := (decide (v5007 ≤ v5003))) hb2 h
     try simp only [go_sem]
     refine seq_go ?_
     try simp only [go_sem]
     have hj := posF_to rfl rfl (ih0 a0 (IntKind.i64.wrap (p0_0 + 1)) _ h)
     refine lp_to hj (.one ⟨_,.done _,[],[],?_⟩)
     clear hj
     try simp only [go_sem]
   ·replace h := ifF (c := (decide (p0_0 < ((List.length a0 : Nat) : Int)))) hb1 h
    try simp only [go_sem]
    refine seq_go ?_
    try simp only [go_sem]
    cases h
    simp only [go_sem]
theorem i_isIncreasing_ok (a0 : List Int) (r : Bool) (h : i_isIncreasing a0 = some r) : AC Tryz.prog 75 [.ro (List.map i64D a0)] (.bool r) := by
 unfold i_isIncreasing at h
 refine ac_fn mixed Tryz.func75 rfl rfl rfl (by kernel_rfl) (by kernel_rfl) ?_
 try simp only [go_sem]
 have hj := posF_to rfl rfl (i_isIncreasing_l1_ok fuel a0 1 _ h)
 refine loop_to hj (.one ⟨_,.done _,[],[],?_⟩)
 clear hj
 try simp only [go_sem]
theorem g_Index_sint64_l1_ok (n : Nat) : (∀ (a0 : List Int) (a1 : Int) (p0_0 : Int) (r : Int),g_Index_sint64_l1 n a0 a1 p0_0 = some r → posF Tryz.prog Tryz.f163 [1,0,1,0] (.int .i64 r) ⟨[(0,.ro (List.map i64D a0)),(1,.int .i64 a1),(7,.int .i64 ((List.length a0 : Nat) : Int)),(8,.int .i64 p0_0)],[],[]⟩) := by
 induction n with
 | zero => exact ((fun _ _ _ _ h => by rw [g_Index_sint64_l1] at h; cases h))
 | succ n ih =>
  have ih0 := ih
  ·intro a0 a1 p0_0 r h
   rw [g_Index_sint64_l1] at h
   refine posF_of rfl rfl ?_
   try simp only [go_sem]
   refine loop_i ?_
   try simp only [go_sem]
   refine cond_i (fun hb1 => ?_) (fun hb1 => ?_)
   ·replace h := ifT (c := (decide (p0_0 < ((List.length a0 : Nat) : Int)))) hb1 h
    try simp only [go_sem]
    refine seq_go ?_
    try simp only [go_sem]
    replace h := bindE h
    obtain ⟨v5003,hv5003,h⟩ := h
    refine idx_m hv5003 rfl ?_
    try simp only [go_sem]
    refine cond_i (fun hb2 => ?_) (fun hb2 => ?_)
    ·replace h := ifT (c := (decide (a1 = v5003))) hb2 h
     try simp only [go_sem]
     cases h
     simp only [go_sem]
    ·replace h := ifF (c := (decide (a1 = v5003))) hb2 h
     try simp only [go_sem]
     refine seq_go ?_
     try simp only [go_sem]
     have hj := posF_to rfl rfl (ih0 a0 a1 (IntKind.i64.wrap (p0_0 + 1)) _ h)
     refine lp_to hj (.one ⟨_,.done _,[],[],?_⟩)
     clear hj
     try simp only [go_sem]
   ·replace h := ifF (c := (decide (p0_0 < ((List.length a0 : Nat) : Int)))) hb1 h
    try simp only [go_sem]
    refine seq_go ?_
    try simp only [go_sem]
    cases h
    simp only [go_sem]
theorem g_Index_sint64_ok (a0 : List Int) (a1 : Int) (r : Int) (h : g_Index_sint64 a0 a1 = some r) : AC Tryz.prog 163 [.ro (List.map i64D a0),.int .i64 a1] (.int .i64 r) := by
 unfold g_Index_sint64 at h
 refine ac_fn mixed Tryz.func163 rfl rfl rfl (by kernel_rfl) (by kernel_rfl) ?_
 try simp only [go_sem]
 have hj := posF_to rfl rfl (g_Index_sint64_l1_ok fuel a0 a1 0 _ h)
 refine loop_to hj (.one ⟨_,.done _,[],[],?_⟩)
 clear hj
 try simp only [go_sem]
theorem g_Contains_sint64_ok (a0 : List Int) (a1 : Int) (r : Bool) (h : g_Contains_sint64 a0 a1 = some r) : AC Tryz.prog 78 [.ro (List.map i64D a0),.int .i64 a1] (.bool r) := by
 unfold g_Contains_sint64 at h
 refine ac_fn mixed Tryz.func78 rfl rfl rfl (by kernel_rfl) (by kernel_rfl) ?_
 try simp only [go_sem]
 replace h := bindE h
 obtain ⟨v2002,hv2002,h⟩ := h
 refine call_i (g_Index_sint64_ok _ _ _ hv2002) ?_
 try simp only [go_sem]
 refine seq_go ?_
 try simp only [go_sem]
 cases h
 simp only [go_sem]
theorem i_ContractMarked_1_ok (a0 : Int) (a1 : List Int) (r : Bool) (h : i_ContractMarked_1 a0 a1 = some r) : AC Tryz.prog 77 [.int .i64 a0,.rop [.ro (List.map i64D a1)] 0] (.bool r) := by
 unfold i_ContractMarked_1 at h
 refine ac_fn mixed Tryz.func77 rfl rfl rfl (by kernel_rfl) (by kernel_rfl) ?_
 try simp only [go_sem]
 replace h := bindE h
 obtain ⟨v2002,hv2002,h⟩ := h
 refine call_i (g_Contains_sint64_ok _ _ _ hv2002) ?_
 try simp only [go_sem]
 refine seq_go ?_
 try simp only [go_sem]
 cases h
 simp only [go_sem]
theorem i_marker_contract_j3_ok (a0 : Marker) (p1_0 : Int) (p2_0 : Int) (p2_1 : Int) (p2_2 : List Int) (p2_3 : List Core) (r : Core × Bool × Marker) (h : i_marker_contract_j3 a0 p1_0 p2_0 p2_1 p2_2 p2_3 = some r) : posG Tryz.prog Tryz.f79 [1,1,1,1,1,1] (.tup [.agg [.int .i64 r.1.kind,.int .i64 r.1.value,.ro (List.map i64D r.1.data),.ro (List.map Core.ds r.1.kids)],.bool r.2.1]) [] [(1,[.ro (List.map Core.ds a0.b.defs),.ro (List.map i64D a0.marks),.int .i64 r.2.2.att])] ⟨[(4,.box 1000002500 0),(7,.box 1000002501 0)],[],[(1,some [.ro (List.map Core.ds a0.b.defs),.ro (List.map i64D a0.marks),.int .i64 p1_0]),(1000002500,some [.int .i64 0,.int .i64 0,.nils,.nils]),(1000002501,some [.int .i64 p2_0,.int .i64 p2_1,.ro (List.map i64D p2_2),.ro (List.map Core.ds p2_3)])]⟩ := by
 unfold i_marker_contract_j3 at h
 refine posG_of rfl rfl ?_
 try simp only [go_sem]
 refine draw_i [false,false,false,true,true] (Tr.sq [3,4] .fin) (by kernel_rfl) ?_
 try simp only [go_sem]
 replace h := bindE h
 obtain ⟨v15002,hv15002,h⟩ := h
 refine call_i (i_coreFits_ok _ _ hv15002) ?_
 try simp only [go_sem]
 refine seq_go ?_
 try simp only [go_sem]
 cases h
 refine ret_i (.done _) [] [(1,1)] ?_
 simp only [go_sem]
theorem i_marker_contract_all (n : Nat) : (∀ (a0 : Marker) (a1 : Core) (r : Core × Bool × Marker),i_marker_contract n a0 a1 = some r → AG Tryz.prog 79 [.box 1 0,.agg [.int .i64 a1.kind,.int .i64 a1.value,.ro (List.map i64D a1.data),.ro (List.map Core.ds a1.kids)]] [] [(1,[.ro (List.map Core.ds a0.b.defs),.ro (List.map i64D a0.marks),.int .i64 a0.att])] (.tup [.agg [.int .i64 r.1.kind,.int .i64 r.1.value,.ro (List.map i64D r.1.data),.ro (List.map Core.ds r.1.kids)],.bool r.2.1]) [] [(1,[.ro (List.map Core.ds a0.b.defs),.ro (List.map i64D a0.marks),.int .i64 r.2.2.att])]) ∧
    (∀ (a0 : Marker) (a1 : Core) (v2008 : Bool) (v4006 : (List Int)) (p1_0 : Int) (p1_1 : List Core) (p1_2 : Int) (r : Core × Bool × Marker),i_marker_contract_l2 n a0 a1 v2008 v4006 p1_0 p1_1 p1_2 = some r → posG Tryz.prog Tryz.f79 [1,1,1,1,0,1,0] (.tup [.agg [.int .i64 r.1.kind,.int .i64 r.1.value,.ro (List.map i64D r.1.data),.ro (List.map Core.ds r.1.kids)],.bool r.2.1]) [] [(1,[.ro (List.map Core.ds a0.b.defs),.ro (List.map i64D a0.marks),.int .i64 r.2.2.att])] ⟨[(0,.box 1 0),(3,.box 1000001500 0),(4,.box 1000001501 0),(6,.bool v2008),(7,.box 1000001502 0),(37,.ro (List.map Core.ds a1.kids)),(38,.int .i64 ((List.length a1.kids : Nat) : Int)),(39,.int .i64 p1_2)],[(1000001000,some ⟨List.map i64D v4006,some 1,0,false⟩),(1000001001,some ⟨List.map Core.dz p1_1,some 4,0,true⟩)],[(1,some [.ro (List.map Core.ds a0.b.defs),.ro (List.map i64D a0.marks),.int .i64 p1_0]),(1000001500,some [.int .i64 a1.kind,.int .i64 a1.value,.ro (List.map i64D a1.data),.ro (List.map Core.ds a1.kids)]),(1000001501,some [.int .i64 0,.int .i64 0,.nils,.nils]),(1000001502,some [.int .i64 a1.kind,.int .i64 a1.value,.own 1000001000,.own 1000001001])]⟩) := by
 induction n with
 | zero => exact ⟨(fun _ _ _ h => by rw [i_marker_contract] at h; cases h),(fun _ _ _ _ _ _ _ _ h => by rw [i_marker_contract_l2] at h; cases h)⟩
 | succ n ih =>
  obtain ⟨ih0,ih1⟩ := ih
  refine ⟨?_,?_⟩
  ·intro a0 a1 r h
   rw [i_marker_contract] at h
   refine ag_fn mixed Tryz.func79 rfl rfl rfl (by kernel_rfl) (by kernel_rfl) ?_
   try simp only [go_sem]
   refine draw_i [] .fin (by kernel_rfl) ?_
   try simp only [go_sem]
   replace h := bindE h
   obtain ⟨v2008,hv2008,h⟩ := h
   refine call_i (g_Contains_sint64_ok _ _ _ hv2008) ?_
   try simp only [go_sem]
   refine seq_go ?_
   try simp only [go_sem]
   refine draw_i [false,false,false,false,false,false,false,false,false,true] (Tr.sq [9] .fin) (by kernel_rfl) ?_
   try simp only [go_sem]
   replace h := bindE h
   obtain ⟨v4006,hv4006,h⟩ := h
   refine call_i (g_Clone_sint64_ok _ _ hv4006) ?_
   try simp only [go_sem]
   refine seq_go ?_
   try simp only [go_sem]
   have hj := posG_to rfl rfl (ih1 a0 a1 v2008 v4006 (IntKind.i64.wrap (a0.att + 1)) [] 0 _ h)
   refine loop_to hj (.one ⟨_,.cell 4008 3 2000000000 (some 4) true _ (by simp only [go_sem]; rfl) (by rfl) (by simp only [go_sem]) (.done _),[(1000001000,64096),(1000001001,2000000000)],[(1,1),(1000001500,1000),(1000001501,1001),(1000001502,4008)],?_⟩)
   clear hj
   simp only [go_sem]
   all_goals try rfl
  ·intro a0 a1 v2008 v4006 p1_0 p1_1 p1_2 r h
   rw [i_marker_contract_l2] at h
   refine posG_of rfl rfl ?_
   try simp only [go_sem]
   refine loop_i ?_
   try simp only [go_sem]
   refine cond_i (fun hb1 => ?_) (fun hb1 => ?_)
   ·replace h := ifT (c := (decide (p1_2 < ((List.length a1.kids : Nat) : Int)))) hb1 h
    try simp only [go_sem]
    refine seq_go ?_
    try simp only [go_sem]
    replace h := bindE h
    obtain ⟨v7000,hv7000,h⟩ := h
    refine idx_m hv7000 (Core.ds_len _) ?_
    try simp only [go_sem]
    replace h := bindE h
    obtain ⟨v8002,hv8002,h⟩ := h
    refine call_g ⟨[],[],[(1,1,0)],[],[],true⟩ (by kernel_rfl) (ih0 _ _ _ hv8002) (by kernel_rfl) ?_
    try simp only [go_sem]
    refine seq_go ?_
    try simp only [go_sem]
    refine cond_i (fun hb2 => ?_) (fun hb2 => ?_)
    ·replace h := ifT (c := (!v8002.2.1)) hb2 h
     try simp only [go_sem]
     cases h
     refine ret_i (.frzN [(0,[0,2]),(0,[0,3])] [] _ _ (by (first | rfl | (simp only [go_sem]; rfl))) (by (first | rfl | (simp only [go_sem]; rfl))) (.done _)) [] [(1,1)] ?_
     simp only [go_sem]
     all_goals try rfl
    ·replace h := ifF (c := (!v8002.2.1)) hb2 h
     try simp only [go_sem]
     refine seq_go ?_
     try simp only [go_sem]
     replace h := bindE h
     obtain ⟨v11004,hv11004,h⟩ := h
     have hq_ := app_some hv11004
     obtain ⟨hv11004a,hv11004b⟩ := hq_
     refine zed_i true ?_
     try simp only [go_sem]
     refine and_i (by refine ⟨?_,?_⟩ <;> (try simp only [List.length_map,List.length_append,List.length_cons,List.length_nil] at *) <;> (try unfold maxLen) <;> omega) ?_
     try simp only [go_sem]
     refine row_i (List.map Core.dz v11004) (by rw [← hv11004b]; simp only [List.map_append,List.map_cons,List.map_nil,List.nil_append,List.append_nil,go_sem,Core.ds_eq,Core.dz_eq]) ?_
     try simp only [go_sem]
     refine seq_go ?_
     try simp only [go_sem]
     have hj := posG_to rfl rfl (ih1 a0 a1 v2008 v4006 v8002.2.2.att v11004 (IntKind.i64.wrap (p1_2 + 1)) _ h)
     refine lp_to hj (.one ⟨_,.done _,[(1000001000,1000001000),(1000001001,176064)],[(1,1),(1000001500,1000001500),(1000001501,1000001501),(1000001502,1000001502)],?_⟩)
     clear hj
     try simp only [go_sem]
   ·replace h := ifF (c := (decide (p1_2 < ((List.length a1.kids : Nat) : Int)))) hb1 h
    try simp only [go_sem]
    refine seq_fz (.frzT 1000001000 [] [(1000001502,2)] _ _ _ (by (first | rfl | (simp only [go_sem]; rfl))) (by decide) (by (first | rfl | (simp only [go_sem]; rfl))) (by (first | rfl | (simp only [go_sem]; rfl))) (.frzT 1000001001 [] [(1000001502,3)] _ _ _ (by (first | rfl | (simp only [go_sem]; rfl))) (by decide) (by (first | rfl | (simp only [go_sem]; rfl))) (by (first | rfl | (simp only [go_sem]; rfl))) (.done _))) ?_
    try simp only [go_sem]
    all_goals try rfl
    refine cond_i (fun hb3 => ?_) (fun hb3 => ?_)
    ·replace h := ifT (c := v2008) hb3 h
     try simp only [go_sem]
     refine draw_i [false,false,false,false,false,false,false,false,true] (Tr.sq [8] .fin) (by kernel_rfl) ?_
     try simp only [go_sem]
     replace h := bindE h
     obtain ⟨v14005,hv14005,h⟩ := h
     refine call_i (i_redexKind_ok _ _ hv14005) ?_
     try simp only [go_sem]
     replace h := bindE h
     obtain ⟨v14007,hv14007,h⟩ := h
     refine call_z (i_contract_ok _ _ _ _ hv14007) (by (first | rfl | (simp only [go_sem]; rfl))) (by first | rfl | (simp only [go_sem])) ?_
     try simp only [go_sem]
     have hj := posG_to rfl rfl (i_marker_contract_j3_ok a0 p1_0 v14007.kind v14007.value v14007.data v14007.kids _ h)
     refine seq_to hj (.one ⟨_,.done _,[],[(1,1),(1000002500,1000001501),(1000002501,1000001502)],?_⟩)
     clear hj
     try simp only [go_sem]
    ·replace h := ifF (c := v2008) hb3 h
     try simp only [go_sem]
     have hj := posG_to rfl rfl (i_marker_contract_j3_ok a0 p1_0 a1.kind a1.value v4006 p1_1 _ h)
     refine seq_to hj (.one ⟨_,.done _,[],[(1,1),(1000002500,1000001501),(1000002501,1000001502)],?_⟩)
     clear hj
     try simp only [go_sem]
theorem i_marker_contract_ok (n : Nat) : (∀ (a0 : Marker) (a1 : Core) (r : Core × Bool × Marker),i_marker_contract n a0 a1 = some r → AG Tryz.prog 79 [.box 1 0,.agg [.int .i64 a1.kind,.int .i64 a1.value,.ro (List.map i64D a1.data),.ro (List.map Core.ds a1.kids)]] [] [(1,[.ro (List.map Core.ds a0.b.defs),.ro (List.map i64D a0.marks),.int .i64 a0.att])] (.tup [.agg [.int .i64 r.1.kind,.int .i64 r.1.value,.ro (List.map i64D r.1.data),.ro (List.map Core.ds r.1.kids)],.bool r.2.1]) [] [(1,[.ro (List.map Core.ds a0.b.defs),.ro (List.map i64D a0.marks),.int .i64 r.2.2.att])]) := (i_marker_contract_all n).1
theorem i_ContractMarked_j1_ok (a0 : Book) (a1 : Core) (a2 : List Int) (p0_0 : Bool) (r : Core × Int) (h : i_ContractMarked_j1 a0 a1 a2 p0_0 = some r) : posF Tryz.prog Tryz.f24 [1,1,1,1,0,1] (.tup [.agg (Core.rv r.1),.int .i64 r.2]) ⟨[(2,.ro (List.map i64D a2)),(3,.box 1000000500 0),(4,.box 1000000501 0),(6,.box 1000000502 0),(26,.bool p0_0)],[],[(1000000500,some [.ro (List.map Core.ds a0.defs)]),(1000000501,some [.int .i64 a1.kind,.int .i64 a1.value,.ro (List.map i64D a1.data),.ro (List.map Core.ds a1.kids)]),(1000000502,some [.int .i64 0,.int .i64 0,.nils,.nils])]⟩ := by
 unfold i_ContractMarked_j1 at h
 refine posF_of rfl rfl ?_
 try simp only [go_sem]
 refine cond_i (fun hb3 => ?_) (fun hb3 => ?_)
 ·replace h := ifT (c := p0_0) hb3 h
  try simp only [go_sem]
  cases h
  simp only [go_sem]
 ·replace h := ifF (c := p0_0) hb3 h
  try simp only [go_sem]
  refine seq_go ?_
  try simp only [go_sem]
  replace h := bindE h
  obtain ⟨v8005,hv8005,h⟩ := h
  refine call_g ⟨[],[],[(1,8003,0)],[],[],true⟩ (by kernel_rfl) (i_marker_contract_ok fuel _ _ _ hv8005) (by kernel_rfl) ?_
  try simp only [go_sem]
  refine seq_go ?_
  try simp only [go_sem]
  refine cond_i (fun hb4 => ?_) (fun hb4 => ?_)
  ·replace h := ifT (c := (!v8005.2.1)) hb4 h
   try simp only [go_sem]
   cases h
   simp only [go_sem]
  ·replace h := ifF (c := (!v8005.2.1)) hb4 h
   try simp only [go_sem]
   refine seq_go ?_
   try simp only [go_sem]
   replace h := bindE h
   obtain ⟨v11001,hv11001,h⟩ := h
   refine call_i (i_copyCore_ok fuel _ _ hv11001) ?_
   try simp only [go_sem]
   refine seq_go ?_
   try simp only [go_sem]
   cases h
   simp only [go_sem]
theorem i_ContractMarked_ok (a0 : Book) (a1 : Core) (a2 : List Int) (r : Core × Int) (h : i_ContractMarked a0 a1 a2 = some r) : AC Tryz.prog 24 [.agg (Book.avs a0),.agg (Core.avs a1),.ro (List.map i64D a2)] (.tup [.agg (Core.rv r.1),.int .i64 r.2]) := by
 unfold i_ContractMarked at h
 refine ac_fn mixed Tryz.func24 rfl rfl rfl (by kernel_rfl) (by kernel_rfl) ?_
 try simp only [go_sem]
 replace h := bindE h
 obtain ⟨v2002,hv2002,h⟩ := h
 refine call_i (i_isMachineState_ok _ _ _ hv2002) ?_
 try simp only [go_sem]
 refine seq_go ?_
 try simp only [go_sem]
 refine cond_i (fun hb1 => ?_) (fun hb1 => ?_)
 ·replace h := ifT (c := (!v2002)) hb1 h
  try simp only [go_sem]
  cases h
  simp only [go_sem]
 ·replace h := ifF (c := (!v2002)) hb1 h
  try simp only [go_sem]
  refine seq_go ?_
  try simp only [go_sem]
  replace h := bindE h
  obtain ⟨v5001,hv5001,h⟩ := h
  refine call_g ⟨[(3000080016,.nils,some 1)],[(1001,3000080016)],[(1,4000,0)],[(1501,80016)],[],true⟩ (by kernel_rfl) (i_redexPositions_ok fuel _ _ _ _ hv5001) (by kernel_rfl) ?_
  try simp only [go_sem]
  refine seq_go ?_
  try simp only [go_sem]
  replace h := bindE h
  obtain ⟨v6001,hv6001,h⟩ := h
  refine call_i (i_isIncreasing_ok _ _ hv6001) ?_
  try simp only [go_sem]
  refine cond_i (fun hb2 => ?_) (fun hb2 => ?_)
  ·replace h := ifT (c := (!v6001)) hb2 h
   try simp only [go_sem]
   have hj := posF_to rfl rfl (i_ContractMarked_j1_ok a0 a1 a2 true _ h)
   refine seq_to hj (.one ⟨_,.done _,[],[(1000000500,1000),(1000000501,1001),(1000000502,1002)],?_⟩)
   clear hj
   try simp only [go_sem]
  ·replace h := ifF (c := (!v6001)) hb2 h
   try simp only [go_sem]
   replace h := bindE h
   obtain ⟨v6006,hv6006,h⟩ := h
   refine call_i (g_ContainsFunc_sint64_ok _ _ 77 [.rop [.ro (List.map i64D v5001.1)] 0] (Still.of (by simp only [pureAs,pureA,Bool.and_true,Bool.true_and,Bool.and_self])) (fun y0 q hq => i_ContractMarked_1_ok y0 _ q hq) _ hv6006) ?_
   try simp only [go_sem]
   have hj := posF_to rfl rfl (i_ContractMarked_j1_ok a0 a1 a2 v6006 _ h)
   refine seq_to hj (.one ⟨_,.done _,[],[(1000000500,1000),(1000000501,1001),(1000000502,1002)],?_⟩)
   clear hj
   try simp only [go_sem]
theorem l_FnExactContractMarked_j3_ok (v15003 : Core × Int) (v31002 : Int × (List Int) × (List Core)) (p2_0 : Bool) (r : Bool) (h : l_FnExactContractMarked_j3 v15003 v31002 p2_0 = some r) : posF Tryz.prog Tryz.f4 [1,1,1,1,1,1,1,1,1,1,1,1,1,1,1,1,1,1,1,1,1,1,1,1,1,1,1,1,0,1] (.bool r) ⟨[(13,.box 1000002500 0),(16,.int .i64 v31002.1),(131,.bool p2_0)],[(1000002000,some ⟨List.map i64D v31002.2.1,some 1,0,false⟩),(1000002001,some ⟨List.map Core.ds v31002.2.2,some 4,0,false⟩)],[(1000002500,some [.int .i64 v15003.1.kind,.int .i64 v15003.1.value,.own 1000002000,.own 1000002001])]⟩ := by
 unfold l_FnExactContractMarked_j3 at h
 refine posF_of rfl rfl ?_
 try simp only [go_sem]
 refine cond_i (fun hb15 => ?_) (fun hb15 => ?_)
 ·replace h := ifT (c := p2_0) hb15 h
  try simp only [go_sem]
  cases h
  simp only [go_sem]
 ·replace h := ifF (c := p2_0) hb15 h
  try simp only [go_sem]
  refine seq_go ?_
  try simp only [go_sem]
  replace h := bindE h
  obtain ⟨v42002,hv42002,h⟩ := h
  refine call_i (l_heldCore_ok _ _ _ hv42002) ?_
  try simp only [go_sem]
  refine seq_go ?_
  try simp only [go_sem]
  refine cond_i (fun hb16 => ?_) (fun hb16 => ?_)
  ·replace h := ifT (c := (decide (v42002 < 0))) hb16 h
   try simp only [go_sem]
   cases h
   simp only [go_sem]
  ·replace h := ifF (c := (decide (v42002 < 0))) hb16 h
   try simp only [go_sem]
   refine seq_go ?_
   try simp only [go_sem]
   refine cond_i (fun hb17 => ?_) (fun hb17 => ?_)
   ·replace h := ifT (c := (!decide (v42002 = v31002.1))) hb17 h
    try simp only [go_sem]
    cases h
    simp only [go_sem]
   ·replace h := ifF (c := (!decide (v42002 = v31002.1))) hb17 h
    try simp only [go_sem]
    refine seq_go ?_
    try simp only [go_sem]
    cases h
    simp only [go_sem]
theorem l_FnExactContractMarked_j2_ok (a0 : Book) (a1 : Core) (a2 : List Int) (v11006 : Core × Int) (v15003 : Core × Int) (p1_0 : Bool) (r : Bool) (h : l_FnExactContractMarked_j2 a0 a1 a2 v11006 v15003 p1_0 = some r) : posF Tryz.prog Tryz.f4 [1,1,1,1,1,1,1,1,1,1,1,1,1,1,1,1,1,1,1,1,0,1] (.bool r) ⟨[(2,.ro (List.map i64D a2)),(3,.box 1000001500 0),(4,.box 1000001501 0),(8,.box 1000001502 0),(9,.int .i64 v11006.2),(13,.box 1000001503 0),(101,.bool p1_0)],[(1000001000,some ⟨List.map i64D v11006.1.data,some 1,0,false⟩),(1000001001,some ⟨List.map Core.ds v11006.1.kids,some 4,0,false⟩),(1000001002,some ⟨List.map i64D v15003.1.data,some 1,0,false⟩),(1000001003,some ⟨List.map Core.ds v15003.1.kids,some 4,0,false⟩)],[(1000001500,some [.ro (List.map Core.ds a0.defs)]),(1000001501,some [.int .i64 a1.kind,.int .i64 a1.value,.ro (List.map i64D a1.data),.ro (List.map Core.ds a1.kids)]),(1000001502,some [.int .i64 v11006.1.kind,.int .i64 v11006.1.value,.own 1000001000,.own 1000001001]),(1000001503,some [.int .i64 v15003.1.kind,.int .i64 v15003.1.value,.own 1000001002,.own 1000001003])]⟩ := by
 unfold l_FnExactContractMarked_j2 at h
 refine posF_of rfl rfl ?_
 try simp only [go_sem]
 refine cond_i (fun hb11 => ?_) (fun hb11 => ?_)
 ·replace h := ifT (c := p1_0) hb11 h
  try simp only [go_sem]
  cases h
  simp only [go_sem]
 ·replace h := ifF (c := p1_0) hb11 h
  try simp only [go_sem]
  refine seq_go ?_
  try simp only [go_sem]
  replace h := bindE h
  obtain ⟨v31002,hv31002,h⟩ := h
  refine call_g ⟨[],[(1,1000001002),(2,1000001003)],[],[],[],true⟩ (by kernel_rfl) (l_markCore_ok _ _ (some 1) (some 4) _ hv31002) (by kernel_rfl) ?_
  try simp only [go_sem]
  refine seq_go ?_
  try simp only [go_sem]
  replace h := bindE h
  obtain ⟨v33002,hv33002,h⟩ := h
  refine call_i (l_heldCore_ok _ _ _ hv33002) ?_
  try simp only [go_sem]
  refine seq_go ?_
  try simp only [go_sem]
  refine cond_i (fun hb12 => ?_) (fun hb12 => ?_)
  ·replace h := ifT (c := (decide (v33002 < 0))) hb12 h
   try simp only [go_sem]
   cases h
   simp only [go_sem]
  ·replace h := ifF (c := (decide (v33002 < 0))) hb12 h
   try simp only [go_sem]
   refine seq_go ?_
   try simp only [go_sem]
   refine cond_i (fun hb13 => ?_) (fun hb13 => ?_)
   ·replace h := ifT (c := (!decide (v33002 = v31002.1))) hb13 h
    try simp only [go_sem]
    cases h
    simp only [go_sem]
   ·replace h := ifF (c := (!decide (v33002 = v31002.1))) hb13 h
    try simp only [go_sem]
    refine seq_go ?_
    try simp only [go_sem]
    refine draw_i [false,false,false,false,false,false,false,false,false,false,false,true,true] (Tr.sq [11,12] .fin) (by kernel_rfl) ?_
    try simp only [go_sem]
    replace h := bindE h
    obtain ⟨v38001,hv38001,h⟩ := h
    refine call_i (l_toBook_ok _ _ hv38001) ?_
    try simp only [go_sem]
    replace h := bindE h
    obtain ⟨v38003,hv38003,h⟩ := h
    refine call_i (l_toCore_ok fuel _ _ hv38003) ?_
    try simp only [go_sem]
    replace h := bindE h
    obtain ⟨v38005,hv38005,h⟩ := h
    refine call_i (l_toInt64S_ok _ _ hv38005) ?_
    try simp only [go_sem]
    replace h := bindE h
    obtain ⟨v38006,hv38006,h⟩ := h
    refine call_i (i_ContractMarked_ok _ _ _ _ hv38006) ?_
    try simp only [go_sem]
    refine seq_go ?_
    try simp only [go_sem]
    replace h := bindE h
    obtain ⟨v39002,hv39002,h⟩ := h
    refine call_i (l_eqCore_ok fuel _ _ _ hv39002) ?_
    try simp only [go_sem]
    refine cond_i (fun hb14 => ?_) (fun hb14 => ?_)
    ·replace h := ifT (c := (!v39002)) hb14 h
     try simp only [go_sem]
     have hj := posF_to rfl rfl (l_FnExactContractMarked_j3_ok v15003 v31002 true _ h)
     refine seq_to hj (.one ⟨_,.done _,[(1000002000,1000001002),(1000002001,1000001003)],[(1000002500,1000001503)],?_⟩)
     clear hj
     try simp only [go_sem]
    ·replace h := ifF (c := (!v39002)) hb14 h
     try simp only [go_sem]
     have hj := posF_to rfl rfl (l_FnExactContractMarked_j3_ok v15003 v31002 (!decide (v38006.2 = v11006.2)) _ h)
     refine seq_to hj (.one ⟨_,.done _,[(1000002000,1000001002),(1000002001,1000001003)],[(1000002500,1000001503)],?_⟩)
     clear hj
     try simp only [go_sem]
theorem l_FnExactContractMarked_j1_ok (a0 : Book) (a1 : Core) (a2 : List Int) (v11006 : Core × Int) (v12001 : Book) (v13001 : Core) (v14001 : (List Int)) (v15003 : Core × Int) (p0_0 : Bool) (r : Bool) (h : l_FnExactContractMarked_j1 a0 a1 a2 v11006 v12001 v13001 v14001 v15003 p0_0 = some r) : posF Tryz.prog Tryz.f4 [1,1,1,1,1,1,1,1,1,1,1,1,0,1] (.bool r) ⟨[(2,.ro (List.map i64D a2)),(3,.box 1000000500 0),(4,.box 1000000501 0),(8,.box 1000000502 0),(9,.int .i64 v11006.2),(10,.box 1000000503 0),(11,.box 1000000504 0),(12,.own 1000000005),(13,.box 1000000505 0),(14,.int .i64 v15003.2),(64,.bool p0_0)],[(1000000000,some ⟨List.map i64D v11006.1.data,some 1,0,false⟩),(1000000001,some ⟨List.map Core.ds v11006.1.kids,some 4,0,false⟩),(1000000002,some ⟨List.map Core.ds v12001.defs,some 4,0,false⟩),(1000000003,some ⟨List.map i64D v13001.data,some 1,0,false⟩),(1000000004,some ⟨List.map Core.ds v13001.kids,some 4,0,false⟩),(1000000005,some ⟨List.map i64D v14001,some 1,0,false⟩),(1000000006,some ⟨List.map i64D v15003.1.data,some 1,0,false⟩),(1000000007,some ⟨List.map Core.ds v15003.1.kids,some 4,0,false⟩)],[(1000000500,some [.ro (List.map Core.ds a0.defs)]),(1000000501,some [.int .i64 a1.kind,.int .i64 a1.value,.ro (List.map i64D a1.data),.ro (List.map Core.ds a1.kids)]),(1000000502,some [.int .i64 v11006.1.kind,.int .i64 v11006.1.value,.own 1000000000,.own 1000000001]),(1000000503,some [.own 1000000002]),(1000000504,some [.int .i64 v13001.kind,.int .i64 v13001.value,.own 1000000003,.own 1000000004]),(1000000505,some [.int .i64 v15003.1.kind,.int .i64 v15003.1.value,.own 1000000006,.own 1000000007])]⟩ := by
 unfold l_FnExactContractMarked_j1 at h
 refine posF_of rfl rfl ?_
 try simp only [go_sem]
 refine cond_i (fun hb5 => ?_) (fun hb5 => ?_)
 ·replace h := ifT (c := p0_0) hb5 h
  try simp only [go_sem]
  cases h
  simp only [go_sem]
 ·replace h := ifF (c := p0_0) hb5 h
  try simp only [go_sem]
  refine seq_go ?_
  try simp only [go_sem]
  refine draw_i [] .fin (by kernel_rfl) ?_
  try simp only [go_sem]
  replace h := bindE h
  obtain ⟨v18002,hv18002,h⟩ := h
  refine call_i (l_toBook_ok _ _ hv18002) ?_
  try simp only [go_sem]
  replace h := bindE h
  obtain ⟨v18003,hv18003,h⟩ := h
  refine call_i (l_eqBook_ok _ _ _ hv18003) ?_
  try simp only [go_sem]
  refine seq_go ?_
  try simp only [go_sem]
  refine cond_i (fun hb6 => ?_) (fun hb6 => ?_)
  ·replace h := ifT (c := (!v18003)) hb6 h
   try simp only [go_sem]
   cases h
   simp only [go_sem]
  ·replace h := ifF (c := (!v18003)) hb6 h
   try simp only [go_sem]
   refine seq_go ?_
   try simp only [go_sem]
   refine draw_i [] .fin (by kernel_rfl) ?_
   try simp only [go_sem]
   replace h := bindE h
   obtain ⟨v20002,hv20002,h⟩ := h
   refine call_i (l_toCore_ok fuel _ _ hv20002) ?_
   try simp only [go_sem]
   replace h := bindE h
   obtain ⟨v20003,hv20003,h⟩ := h
   refine call_i (l_eqCore_ok fuel _ _ _ hv20003) ?_
   try simp only [go_sem]
   refine seq_go ?_
   try simp only [go_sem]
   refine cond_i (fun hb7 => ?_) (fun hb7 => ?_)
   ·replace h := ifT (c := (!v20003)) hb7 h
    try simp only [go_sem]
    cases h
    simp only [go_sem]
   ·replace h := ifF (c := (!v20003)) hb7 h
    try simp only [go_sem]
    refine seq_go ?_
    try simp only [go_sem]
    replace h := bindE h
    obtain ⟨v22002,hv22002,h⟩ := h
    refine call_i (l_toInt64S_ok _ _ hv22002) ?_
    try simp only [go_sem]
    replace h := bindE h
    obtain ⟨v22003,hv22003,h⟩ := h
    refine call_i (l_eqInt64S_ok _ _ _ hv22003) ?_
    try simp only [go_sem]
    refine seq_go ?_
    try simp only [go_sem]
    refine cond_i (fun hb8 => ?_) (fun hb8 => ?_)
    ·replace h := ifT (c := (!v22003)) hb8 h
     try simp only [go_sem]
     cases h
     simp only [go_sem]
    ·replace h := ifF (c := (!v22003)) hb8 h
     try simp only [go_sem]
     refine seq_go ?_
     try simp only [go_sem]
     replace h := bindE h
     obtain ⟨v25002,hv25002,h⟩ := h
     refine call_g ⟨[],[(1,1000000002)],[],[],[],true⟩ (by kernel_rfl) (l_markBook_ok _ _ (some 4) _ hv25002) (by kernel_rfl) ?_
     try simp only [go_sem]
     refine seq_go ?_
     try simp only [go_sem]
     replace h := bindE h
     obtain ⟨v26002,hv26002,h⟩ := h
     refine call_g ⟨[],[(1,1000000003),(2,1000000004)],[],[],[],true⟩ (by kernel_rfl) (l_markCore_ok _ _ (some 1) (some 4) _ hv26002) (by kernel_rfl) ?_
     try simp only [go_sem]
     refine seq_go ?_
     try simp only [go_sem]
     replace h := bindE h
     obtain ⟨v27002,hv27002,h⟩ := h
     refine call_g ⟨[],[(1,1000000005)],[],[],[],true⟩ (by kernel_rfl) (l_markInt64S_ok _ _ (some 1) _ hv27002) (by kernel_rfl) ?_
     try simp only [go_sem]
     refine seq_go ?_
     try simp only [go_sem]
     refine cond_i (fun hb9 => ?_) (fun hb9 => ?_)
     ·replace h := ifT (c := (decide (v27002.1 < 0))) hb9 h
      try simp only [go_sem]
      have hj := posF_to rfl rfl (l_FnExactContractMarked_j2_ok a0 a1 a2 v11006 v15003 true _ h)
      refine seq_to hj (.one ⟨_,.done _,[(1000001000,1000000000),(1000001001,1000000001),(1000001002,1000000006),(1000001003,1000000007)],[(1000001500,1000000500),(1000001501,1000000501),(1000001502,1000000502),(1000001503,1000000505)],?_⟩)
      clear hj
      try simp only [go_sem]
     ·replace h := ifF (c := (decide (v27002.1 < 0))) hb9 h
      try simp only [go_sem]
      replace h := bindE h
      obtain ⟨v28005,hv28005,h⟩ := h
      refine call_i (l_eqCore_ok fuel _ _ _ hv28005) ?_
      try simp only [go_sem]
      refine cond_i (fun hb10 => ?_) (fun hb10 => ?_)
      ·replace h := ifT (c := (!v28005)) hb10 h
       try simp only [go_sem]
       have hj := posF_to rfl rfl (l_FnExactContractMarked_j2_ok a0 a1 a2 v11006 v15003 true _ h)
       refine seq_to hj (.one ⟨_,.done _,[(1000001000,1000000000),(1000001001,1000000001),(1000001002,1000000006),(1000001003,1000000007)],[(1000001500,1000000500),(1000001501,1000000501),(1000001502,1000000502),(1000001503,1000000505)],?_⟩)
       clear hj
       try simp only [go_sem]
      ·replace h := ifF (c := (!v28005)) hb10 h
       try simp only [go_sem]
       have hj := posF_to rfl rfl (l_FnExactContractMarked_j2_ok a0 a1 a2 v11006 v15003 (!decide (v15003.2 = v11006.2)) _ h)
       refine seq_to hj (.one ⟨_,.done _,[(1000001000,1000000000),(1000001001,1000000001),(1000001002,1000000006),(1000001003,1000000007)],[(1000001500,1000000500),(1000001501,1000000501),(1000001502,1000000502),(1000001503,1000000505)],?_⟩)
       clear hj
       try simp only [go_sem]
theorem l_FnExactContractMarked_ok (a0 : Book) (a1 : Core) (a2 : List Int) (r : Bool) (h : l_FnExactContractMarked a0 a1 a2 = some r) : AC Tryz.prog 4 [.agg (Book.avs a0),.agg (Core.avs a1),.ro (List.map i64D a2)] (.bool r) := by
 unfold l_FnExactContractMarked at h
 refine ac_fn mixed Tryz.func4 rfl rfl rfl (by kernel_rfl) (by kernel_rfl) ?_
 try simp only [go_sem]
 refine cond_i (fun hb1 => ?_) (fun hb1 => ?_)
 ·replace h := ifT (c := (decide (1048576 < ((List.length a2 : Nat) : Int)))) hb1 h
  try simp only [go_sem]
  cases h
  simp only [go_sem]
 ·replace h := ifF (c := (decide (1048576 < ((List.length a2 : Nat) : Int)))) hb1 h
  try simp only [go_sem]
  refine seq_go ?_
  try simp only [go_sem]
  replace h := bindE h
  obtain ⟨v5002,hv5002,h⟩ := h
  refine call_i (l_szBook_ok _ _ _ hv5002) ?_
  try simp only [go_sem]
  refine seq_go ?_
  try simp only [go_sem]
  refine cond_i (fun hb2 => ?_) (fun hb2 => ?_)
  ·replace h := ifT (c := (decide (v5002 < 0))) hb2 h
   try simp only [go_sem]
   cases h
   simp only [go_sem]
  ·replace h := ifF (c := (decide (v5002 < 0))) hb2 h
   try simp only [go_sem]
   refine seq_go ?_
   try simp only [go_sem]
   replace h := bindE h
   obtain ⟨v8002,hv8002,h⟩ := h
   refine call_i (l_szCore_ok fuel _ _ _ hv8002) ?_
   try simp only [go_sem]
   refine seq_go ?_
   try simp only [go_sem]
   refine cond_i (fun hb3 => ?_) (fun hb3 => ?_)
   ·replace h := ifT (c := (decide (v8002 < 0))) hb3 h
    try simp only [go_sem]
    cases h
    simp only [go_sem]
   ·replace h := ifF (c := (decide (v8002 < 0))) hb3 h
    try simp only [go_sem]
    refine seq_go ?_
    try simp only [go_sem]
    refine draw_i [false,false,false,false,false,false,false,false,false,false,false,true,true] (Tr.sq [11,12] .fin) (by kernel_rfl) ?_
    try simp only [go_sem]
    replace h := bindE h
    obtain ⟨v11001,hv11001,h⟩ := h
    refine call_i (l_toBook_ok _ _ hv11001) ?_
    try simp only [go_sem]
    replace h := bindE h
    obtain ⟨v11003,hv11003,h⟩ := h
    refine call_i (l_toCore_ok fuel _ _ hv11003) ?_
    try simp only [go_sem]
    replace h := bindE h
    obtain ⟨v11005,hv11005,h⟩ := h
    refine call_i (l_toInt64S_ok _ _ hv11005) ?_
    try simp only [go_sem]
    replace h := bindE h
    obtain ⟨v11006,hv11006,h⟩ := h
    refine call_i (s_ContractMarked_ok _ _ _ _ hv11006) ?_
    try simp only [go_sem]
    refine seq_go ?_
    try simp only [go_sem]
    replace h := bindE h
    obtain ⟨v12001,hv12001,h⟩ := h
    refine call_i (l_toBook_ok _ _ hv12001) ?_
    try simp only [go_sem]
    refine seq_go ?_
    try simp only [go_sem]
    replace h := bindE h
    obtain ⟨v13001,hv13001,h⟩ := h
    refine call_i (l_toCore_ok fuel _ _ hv13001) ?_
    try simp only [go_sem]
    refine seq_go ?_
    try simp only [go_sem]
    replace h := bindE h
    obtain ⟨v14001,hv14001,h⟩ := h
    refine call_i (l_toInt64S_ok _ _ hv14001) ?_
    try simp only [go_sem]
    refine seq_go ?_
    try simp only [go_sem]
    replace h := bindE h
    obtain ⟨v15003,hv15003,h⟩ := h
    refine call_i (i_ContractMarked_ok _ _ _ _ hv15003) ?_
    try simp only [go_sem]
    refine seq_go ?_
    try simp only [go_sem]
    replace h := bindE h
    obtain ⟨v16002,hv16002,h⟩ := h
    refine call_i (l_eqCore_ok fuel _ _ _ hv16002) ?_
    try simp only [go_sem]
    refine cond_i (fun hb4 => ?_) (fun hb4 => ?_)
    ·replace h := ifT (c := (!v16002)) hb4 h
     try simp only [go_sem]
     have hj := posF_to rfl rfl (l_FnExactContractMarked_j1_ok a0 a1 a2 v11006 v12001 v13001 v14001 v15003 true _ h)
     refine seq_to hj (.one ⟨_,.done _,[(1000000000,176096),(1000000001,176097),(1000000002,192016),(1000000003,208016),(1000000004,208017),(1000000005,224016),(1000000006,240048),(1000000007,240049)],[(1000000500,1000),(1000000501,1001),(1000000502,11010),(1000000503,12002),(1000000504,13002),(1000000505,15007)],?_⟩)
     clear hj
     try simp only [go_sem]
    ·replace h := ifF (c := (!v16002)) hb4 h
     try simp only [go_sem]
     have hj := posF_to rfl rfl (l_FnExactContractMarked_j1_ok a0 a1 a2 v11006 v12001 v13001 v14001 v15003 (!decide (v15003.2 = v11006.2)) _ h)
     refine seq_to hj (.one ⟨_,.done _,[(1000000000,176096),(1000000001,176097),(1000000002,192016),(1000000003,208016),(1000000004,208017),(1000000005,224016),(1000000006,240048),(1000000007,240049)],[(1000000500,1000),(1000000501,1001),(1000000502,11010),(1000000503,12002),(1000000504,13002),(1000000505,15007)],?_⟩)
     clear hj
     try simp only [go_sem]
end Go.Proofs.YtjdinbgcgbigoaaGreat.Ab
