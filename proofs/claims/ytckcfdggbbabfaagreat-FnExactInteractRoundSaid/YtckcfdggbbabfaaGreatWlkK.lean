/-
 The functions do what their models say. Printed by wip/ab/gen.py.
-/
import Derived.Test.YtckcfdggbbabfaaGreatModK
import Derived.Test.YtckcfdggbbabfaaGreatTi2
import Derived.Test.YtckcfdggbbabfaaGreatWlkG
namespace Go.Proofs.YtckcfdggbbabfaaGreat.Ab
set_option linter.unusedVariables false
set_option linter.unusedSimpArgs false
set_option maxRecDepth 20000
set_option maxHeartbeats 4000000
open Go.RowKit
theorem KA (n:Nat):(∀a0 u w y r,BU n a0 u w y=some r→A7 Tryz.prog Tryz.f33 [1,1,1,1,0,1,0] (.tup [.agg (Net.rv r.1),.int .i64 r.2.1,.int .i64 r.2.2]) ⟨[(0,.ro (List.map Net.ds a0)),(4,.box 1000002500 0),(7,.box 1000002501 0),(8,.own 1000002001),(9,.int .i64 y)],[(1000002000,some ⟨List.map Agent.ds w,some 5,0,false⟩),(1000002001,some ⟨List.map Pair.ds u,some 2,0,false⟩)],[(1000002500,some [.nils]),(1000002501,some [.own 1000002000])]⟩):=by
 induction n with
 |zero=>exact((fun _ _ _ _ _ h=>by rw [BU] at h; cases h))
 | succ n ih=>
  have ih0:=ih
  ·intro a0 u w y r h
   rw [BU] at h
   refine AS rfl rfl (Z ?_)
   refine Ag (Z ?_)
   refine AD h (fun h=>Z ?_) (fun h=>Z ?_)
   ·refine AB (Z ?_)
    refine Ae [false,false,false,false,false,false,false,false,false,false,false,true,true] (Tr.sq [11,12] .fin) (by kernel_rfl) (Z ?_)
    replace h:=AF h; obtain⟨q,g,h⟩:=h
    refine AR g (Pair.ds_len _) (Z ?_)
    refine Ac (AU g) (Z ?_)
    replace h:=AF h; obtain⟨j,k,h⟩:=h
    refine AR k (Pair.ds_len _) (Z ?_)
    refine Ac (AU k) (Z ?_)
    replace h:=AF h; obtain⟨b,d,h⟩:=h
    refine AP ⟨[],[(1001,1000002000)],[(1,1000002501,0)],[(1501,144176)],[],true⟩ (by kernel_rfl) (VP _ _ _ _ _ d) (by kernel_rfl) (Z ?_)
    refine AB (Z ?_)
    refine AD h (fun h=>Z ?_) (fun h=>Z ?_)
    ·cases h
     simp only [go_sem]
    ·refine AB (Z ?_)
     refine Am (AH rfl rfl (ih0 a0 u b.2.agents (IntKind.i64.wrap (y+1)) _ h):) (.one ⟨_,.done _,[(1000002000,144176),(1000002001,1000002001)],[(1000002500,1000002500),(1000002501,1000002501)],?_⟩)
     try simp only [go_sem]
   ·refine AB (Z ?_)
    replace h:=AF h; obtain⟨c,e,h⟩:=h
    refine AP ⟨[],[(1001,1000002000)],[(1,1000002501,0)],[(1501,192000)],[],true⟩ (by kernel_rfl) (SL _ _ e) (by kernel_rfl) (Z ?_)
    refine AB (Z ?_)
    cases h
    simp only [go_sem]
theorem GQ (a0:List Net) (a1:Net) (u:Bool) (r:Net × Int × Int) (h:B9 a0 a1 u=some r):A7 Tryz.prog Tryz.f33 [1,0,1] (.tup [.agg (Net.rv r.1),.int .i64 r.2.1,.int .i64 r.2.2]) ⟨[(0,.ro (List.map Net.ds a0)),(3,.box 1000000500 0),(4,.box 1000000501 0),(17,.bool u)],[],[(1000000500,some [.ro (List.map Agent.ds a1.agents)]),(1000000501,some [.nils])]⟩:=by
 unfold B9 at h
 refine AS rfl rfl (Z ?_)
 refine AD h (fun h=>Z ?_) (fun h=>Z ?_)
 ·cases h
  simp only [go_sem]
 ·refine AB (Z ?_)
  replace h:=AF h; obtain⟨w,y,h⟩:=h
  refine AK (T7 _ _ y) (Z ?_)
  refine AB (Z ?_)
  replace h:=AF h; obtain⟨q,g,h⟩:=h
  refine AK (Qj _ _ g) (Z ?_)
  refine AB (Z ?_)
  refine AZ (AH rfl rfl (KA fuel a0 q w.agents 0 _ h):) (.one ⟨_,.done _,[(1000002000,64000),(1000002001,80000)],[(1000002500,1000000501),(1000002501,4001)],?_⟩)
  try simp only [go_sem]
theorem MK (a0 a1 r) (h:ET a0 a1=some r):AC Tryz.prog 33 [.ro (List.map Net.ds a0),.agg (Net.avs a1)] (.tup [.agg (Net.rv r.1),.int .i64 r.2.1,.int .i64 r.2.2]):=by
 unfold ET at h
 refine AY mixed Tryz.func33 rfl rfl rfl (by kernel_rfl) (by kernel_rfl) (Z ?_)
 refine AB (Z ?_)
 replace h:=AF h; obtain⟨u,w,h⟩:=h
 refine AK (SM _ _ w) (Z ?_)
 refine AD h (fun h=>Z ?_) (fun h=>Z ?_)
 ·refine AJ (AH rfl rfl (GQ a0 a1 true _ h):) (.one ⟨_,.done _,[],[(1000000500,1000),(1000000501,1001)],?_⟩)
  try simp only [go_sem]
 ·replace h:=AF h; obtain⟨y,q,h⟩:=h
  refine AK (QB _ _ q) (Z ?_)
  refine AJ (AH rfl rfl (GQ a0 a1 (!y) _ h):) (.one ⟨_,.done _,[],[(1000000500,1000),(1000000501,1001)],?_⟩)
  try simp only [go_sem]
theorem KC (n:Nat):(∀u w y q g r,BV n u w y q g=some r→A7 Tryz.prog Tryz.f87 [1,1,1,0,1,0] (.tup [.agg (Net.rv r.1),.int .i64 r.2.1,.int .i64 r.2.2]) ⟨[(4,.box 1000001500 0),(7,.box 1000001501 0),(8,.own 1000001001),(16,.own 1000001001),(17,.int .i64 ((List.length w:Nat):Int)),(18,.int .i64 g)],[(1000001000,some ⟨List.map Agent.dm y,some 5,0,true⟩),(1000001001,some ⟨List.map Pair.ds w,some 2,0,false⟩)],[(1000001500,some [.nils]),(1000001501,some [.own 1000001000,.ro (List.map Net.ds u.book),.mpr 1000001502]),(1000001502,some [.mpc (.int .i64) (List.map prB q)])]⟩):=by
 induction n with
 |zero=>exact((fun _ _ _ _ _ _ h=>by rw [BV] at h; cases h))
 | succ n ih=>
  have ih0:=ih
  ·intro u w y q g r h
   rw [BV] at h
   refine AS rfl rfl (Z ?_)
   refine Ag (Z ?_)
   refine AD h (fun h=>Z ?_) (fun h=>Z ?_)
   ·refine AB (Z ?_)
    replace h:=AF h; obtain⟨j,k,h⟩:=h
    refine AR k (Pair.ds_len _) (Z ?_)
    refine Ac (AU k) (Z ?_)
    refine AB (Z ?_)
    replace h:=AF h; obtain⟨b,d,h⟩:=h
    refine AP ⟨[],[(1001,1000001000)],[(1,1000001501,0),(2,1000001502,0)],[(1501,112032)],[],true⟩ (by kernel_rfl) (Ju _ _ _ d) (by kernel_rfl) (Z ?_)
    refine AB (Z ?_)
    refine AD h (fun h=>Z ?_) (fun h=>Z ?_)
    ·cases h
     simp only [go_sem]
    ·refine AB (Z ?_)
     refine Am (AH rfl rfl (ih0 u w b.2.net.agents b.2.removed (IntKind.i64.wrap (g+1)) _ h):) (.one ⟨_,.done _,[(1000001000,112032),(1000001001,1000001001)],[(1000001500,1000001500),(1000001501,1000001501),(1000001502,1000001502)],?_⟩)
     try simp only [go_sem]
   ·refine AB (Z ?_)
    replace h:=AF h; obtain⟨c,e,h⟩:=h
    refine AP ⟨[],[(1001,1000001000)],[(1,1000001501,0),(2,1000001502,0)],[(1501,176016),(1502,176017)],[],true⟩ (by kernel_rfl) (Kz _ _ e) (by kernel_rfl) (Z ?_)
    refine AB (Z ?_)
    cases h
    simp only [go_sem]
theorem ML (a0 a1 r) (h:FO a0 a1=some r):AC Tryz.prog 87 [.ro (List.map Net.ds a0),.agg (Net.avs a1)] (.tup [.agg (Net.rv r.1),.int .i64 r.2.1,.int .i64 r.2.2]):=by
 unfold FO at h
 refine AY mixed Tryz.func87 rfl rfl rfl (by kernel_rfl) (by kernel_rfl) (Z ?_)
 refine AB (Z ?_)
 replace h:=AF h; obtain⟨u,w,h⟩:=h
 refine AP ⟨[],[],[],[(1501,32033)],[(1601,32032),(1602,32034)],true⟩ (by kernel_rfl) (Nt _ _ _ w) (by kernel_rfl) (Z ?_)
 refine AB (Z ?_)
 replace h:=AF h; obtain⟨y,q,h⟩:=h
 refine AK (P9 _ _ q) (Z ?_)
 refine AB (Z ?_)
 refine AZ (AH rfl rfl (KC fuel u y u.net.agents u.removed 0 _ h):) (.one ⟨_,.done _,[(1000001000,32033),(1000001001,48000)],[(1000001500,1001),(1000001501,32032),(1000001502,32034)],?_⟩)
 try simp only [go_sem]
theorem GR (a0:List Net) (a1:Net) (u:Bool) (r:Net × Int × Int) (h:CA a0 a1 u=some r):A7 Tryz.prog Tryz.f34 [1,0,1] (.tup [.agg (Net.rv r.1),.int .i64 r.2.1,.int .i64 r.2.2]) ⟨[(0,.ro (List.map Net.ds a0)),(3,.box 1000000500 0),(4,.box 1000000501 0),(14,.bool u)],[],[(1000000500,some [.ro (List.map Agent.ds a1.agents)]),(1000000501,some [.nils])]⟩:=by
 unfold CA at h
 refine AS rfl rfl (Z ?_)
 refine AD h (fun h=>Z ?_) (fun h=>Z ?_)
 ·cases h
  simp only [go_sem]
 ·refine AB (Z ?_)
  replace h:=AF h; obtain⟨w,y,h⟩:=h
  refine AK (ML _ _ _ y) (Z ?_)
  refine AB (Z ?_)
  cases h
  simp only [go_sem]
theorem IG (a0 a1 r) (h:DZ a0 a1=some r):AC Tryz.prog 34 [.ro (List.map Net.ds a0),.agg (Net.avs a1)] (.tup [.agg (Net.rv r.1),.int .i64 r.2.1,.int .i64 r.2.2]):=by
 unfold DZ at h
 refine AY mixed Tryz.func34 rfl rfl rfl (by kernel_rfl) (by kernel_rfl) (Z ?_)
 refine AB (Z ?_)
 replace h:=AF h; obtain⟨u,w,h⟩:=h
 refine AK (LY _ _ w) (Z ?_)
 refine AD h (fun h=>Z ?_) (fun h=>Z ?_)
 ·refine AJ (AH rfl rfl (GR a0 a1 true _ h):) (.one ⟨_,.done _,[],[(1000000500,1000),(1000000501,1001)],?_⟩)
  try simp only [go_sem]
 ·replace h:=AF h; obtain⟨y,q,h⟩:=h
  refine AK (Li _ _ q) (Z ?_)
  refine AJ (AH rfl rfl (GR a0 a1 (!y) _ h):) (.one ⟨_,.done _,[],[(1000000500,1000),(1000000501,1001)],?_⟩)
  try simp only [go_sem]
theorem Cv (u:Int × (List Agent)) (w:Bool) (r:Bool) (h:BP u w=some r):A7 Tryz.prog Tryz.f5 [1,1,1,1,1,1,1,1,1,1,1,1,1,1,1,1,1,1,1,1,1,1,1,1,0,1] (.bool r) ⟨[(11,.box 1000002500 0),(15,.int .i64 u.1),(131,.bool w)],[(1000002000,some ⟨List.map Agent.ds u.2,some 5,0,false⟩)],[(1000002500,some [.own 1000002000])]⟩:=by
 unfold BP at h
 refine AS rfl rfl (Z ?_)
 refine AD h (fun h=>Z ?_) (fun h=>Z ?_)
 ·cases h
  simp only [go_sem]
 ·refine AB (Z ?_)
  replace h:=AF h; obtain⟨y,q,h⟩:=h
  refine AK (NE _ _ _ q) (Z ?_)
  refine AB (Z ?_)
  refine AD h (fun h=>Z ?_) (fun h=>Z ?_)
  ·cases h
   simp only [go_sem]
  ·refine AB (Z ?_)
   refine AD h (fun h=>Z ?_) (fun h=>Z ?_)
   ·cases h
    simp only [go_sem]
   ·refine AB (Z ?_)
    cases h
    simp only [go_sem]
theorem B7 (a0:List Net) (a1:Net) (u:Net × Int × Int) (w:Net × Int × Int) (y:Bool) (r:Bool) (h:A8 a0 a1 u w y=some r):A7 Tryz.prog Tryz.f5 [1,1,1,1,1,1,1,1,1,1,1,1,1,1,1,1,0,1] (.bool r) ⟨[(0,.ro (List.map Net.ds a0)),(3,.box 1000001500 0),(6,.box 1000001501 0),(7,.int .i64 u.2.1),(8,.int .i64 u.2.2),(11,.box 1000001502 0),(97,.bool y)],[(1000001000,some ⟨List.map Agent.ds u.1.agents,some 5,0,false⟩),(1000001001,some ⟨List.map Agent.ds w.1.agents,some 5,0,false⟩)],[(1000001500,some [.ro (List.map Agent.ds a1.agents)]),(1000001501,some [.own 1000001000]),(1000001502,some [.own 1000001001])]⟩:=by
 unfold A8 at h
 refine AS rfl rfl (Z ?_)
 refine AD h (fun h=>Z ?_) (fun h=>Z ?_)
 ·cases h
  simp only [go_sem]
 ·refine AB (Z ?_)
  replace h:=AF h; obtain⟨q,g,h⟩:=h
  refine AP ⟨[],[(1,1000001001)],[],[],[],true⟩ (by kernel_rfl) (NF _ _ (some 5) _ g) (by kernel_rfl) (Z ?_)
  refine AB (Z ?_)
  replace h:=AF h; obtain⟨j,k,h⟩:=h
  refine AK (NE _ _ _ k) (Z ?_)
  refine AB (Z ?_)
  refine AD h (fun h=>Z ?_) (fun h=>Z ?_)
  ·cases h
   simp only [go_sem]
  ·refine AB (Z ?_)
   refine AD h (fun h=>Z ?_) (fun h=>Z ?_)
   ·cases h
    simp only [go_sem]
   ·refine AB (Z ?_)
    refine Ae [false,false,false,false,false,false,false,false,false,false,true,true,true] (Tr.sq [10,11,12] .fin) (by kernel_rfl) (Z ?_)
    replace h:=AF h; obtain⟨b,d,h⟩:=h
    refine AK (Ii _ _ d) (Z ?_)
    replace h:=AF h; obtain⟨c,e,h⟩:=h
    refine AK (II _ _ e) (Z ?_)
    replace h:=AF h; obtain⟨i,l,h⟩:=h
    refine AK (IG _ _ _ l) (Z ?_)
    refine AB (Z ?_)
    replace h:=AF h; obtain⟨t,s,h⟩:=h
    refine AK (IJ _ _ _ s) (Z ?_)
    refine AD h (fun h=>Z ?_) (fun h=>Z ?_)
    ·refine AJ (AH rfl rfl (Cv q true _ h):) (.one ⟨_,.done _,[(1000002000,1000001001)],[(1000002500,1000001502)],?_⟩)
     try simp only [go_sem]
    ·refine AD h (fun h=>Z ?_) (fun h=>Z ?_)
     ·refine AJ (AH rfl rfl (Cv q true _ h):) (.one ⟨_,.done _,[(1000002000,1000001001)],[(1000002500,1000001502)],?_⟩)
      try simp only [go_sem]
     ·refine AJ (AH rfl rfl (Cv q (!decide (i.2.2 =u.2.2)) _ h):) (.one ⟨_,.done _,[(1000002000,1000001001)],[(1000002500,1000001502)],?_⟩)
      try simp only [go_sem]
theorem Cw (a0:List Net) (a1:Net) (u:Net × Int × Int) (w:(List Net)) (y:Net) (q:Net × Int × Int) (g:Bool) (r:Bool) (h:BQ a0 a1 u w y q g=some r):A7 Tryz.prog Tryz.f5 [1,1,1,1,1,1,1,1,1,1,0,1] (.bool r) ⟨[(0,.ro (List.map Net.ds a0)),(3,.box 1000000500 0),(6,.box 1000000501 0),(7,.int .i64 u.2.1),(8,.int .i64 u.2.2),(9,.own 1000000001),(10,.box 1000000502 0),(11,.box 1000000503 0),(12,.int .i64 q.2.1),(13,.int .i64 q.2.2),(63,.bool g)],[(1000000000,some ⟨List.map Agent.ds u.1.agents,some 5,0,false⟩),(1000000001,some ⟨List.map Net.ds w,some 1,0,false⟩),(1000000002,some ⟨List.map Agent.ds y.agents,some 5,0,false⟩),(1000000003,some ⟨List.map Agent.ds q.1.agents,some 5,0,false⟩)],[(1000000500,some [.ro (List.map Agent.ds a1.agents)]),(1000000501,some [.own 1000000000]),(1000000502,some [.own 1000000002]),(1000000503,some [.own 1000000003])]⟩:=by
 unfold BQ at h
 refine AS rfl rfl (Z ?_)
 refine AD h (fun h=>Z ?_) (fun h=>Z ?_)
 ·cases h
  simp only [go_sem]
 ·refine AB (Z ?_)
  replace h:=AF h; obtain⟨j,k,h⟩:=h
  refine AK (Ii _ _ k) (Z ?_)
  replace h:=AF h; obtain⟨b,d,h⟩:=h
  refine AK (T8 _ _ _ d) (Z ?_)
  refine AB (Z ?_)
  refine AD h (fun h=>Z ?_) (fun h=>Z ?_)
  ·cases h
   simp only [go_sem]
  ·refine AB (Z ?_)
   refine Ae [] .fin (by kernel_rfl) (Z ?_)
   replace h:=AF h; obtain⟨c,e,h⟩:=h
   refine AK (II _ _ e) (Z ?_)
   replace h:=AF h; obtain⟨i,l,h⟩:=h
   refine AK (IJ _ _ _ l) (Z ?_)
   refine AB (Z ?_)
   refine AD h (fun h=>Z ?_) (fun h=>Z ?_)
   ·cases h
    simp only [go_sem]
   ·refine AB (Z ?_)
    replace h:=AF h; obtain⟨t,s,h⟩:=h
    refine AP ⟨[],[(1,1000000001)],[],[],[],true⟩ (by kernel_rfl) (Qk _ _ (some 1) _ s) (by kernel_rfl) (Z ?_)
    refine AB (Z ?_)
    replace h:=AF h; obtain⟨o,z,h⟩:=h
    refine AP ⟨[],[(1,1000000002)],[],[],[],true⟩ (by kernel_rfl) (NF _ _ (some 5) _ z) (by kernel_rfl) (Z ?_)
    refine AB (Z ?_)
    refine AD h (fun h=>Z ?_) (fun h=>Z ?_)
    ·refine AJ (AH rfl rfl (B7 a0 a1 u q true _ h):) (.one ⟨_,.done _,[(1000001000,1000000000),(1000001001,1000000003)],[(1000001500,1000000500),(1000001501,1000000501),(1000001502,1000000503)],?_⟩)
     try simp only [go_sem]
    ·replace h:=AF h; obtain⟨u1,u2,h⟩:=h
     refine AK (IJ _ _ _ u2) (Z ?_)
     refine AD h (fun h=>Z ?_) (fun h=>Z ?_)
     ·refine AJ (AH rfl rfl (B7 a0 a1 u q true _ h):) (.one ⟨_,.done _,[(1000001000,1000000000),(1000001001,1000000003)],[(1000001500,1000000500),(1000001501,1000000501),(1000001502,1000000503)],?_⟩)
      try simp only [go_sem]
     ·refine AD h (fun h=>Z ?_) (fun h=>Z ?_)
      ·refine AJ (AH rfl rfl (B7 a0 a1 u q true _ h):) (.one ⟨_,.done _,[(1000001000,1000000000),(1000001001,1000000003)],[(1000001500,1000000500),(1000001501,1000000501),(1000001502,1000000503)],?_⟩)
       try simp only [go_sem]
      ·refine AJ (AH rfl rfl (B7 a0 a1 u q (!decide (q.2.2 =u.2.2)) _ h):) (.one ⟨_,.done _,[(1000001000,1000000000),(1000001001,1000000003)],[(1000001500,1000000500),(1000001501,1000000501),(1000001502,1000000503)],?_⟩)
       try simp only [go_sem]
theorem IS (a0 a1 r) (h:C3 a0 a1=some r):AC Tryz.prog 5 [.ro (List.map Net.ds a0),.agg (Net.avs a1)] (.bool r):=by
 unfold C3 at h
 refine AY mixed Tryz.func5 rfl rfl rfl (by kernel_rfl) (by kernel_rfl) (Z ?_)
 replace h:=AF h; obtain⟨u,w,h⟩:=h
 refine AK (T9 _ _ _ w) (Z ?_)
 refine AB (Z ?_)
 refine AD h (fun h=>Z ?_) (fun h=>Z ?_)
 ·cases h
  simp only [go_sem]
 ·refine AB (Z ?_)
  replace h:=AF h; obtain⟨y,q,h⟩:=h
  refine AK (QC _ _ _ q) (Z ?_)
  refine AB (Z ?_)
  refine AD h (fun h=>Z ?_) (fun h=>Z ?_)
  ·cases h
   simp only [go_sem]
  ·refine AB (Z ?_)
   refine Ae [false,false,false,false,false,false,false,false,false,false,true,true,true] (Tr.sq [10,11,12] .fin) (by kernel_rfl) (Z ?_)
   replace h:=AF h; obtain⟨g,j,h⟩:=h
   refine AK (Ii _ _ j) (Z ?_)
   replace h:=AF h; obtain⟨k,b,h⟩:=h
   refine AK (II _ _ b) (Z ?_)
   replace h:=AF h; obtain⟨d,c,h⟩:=h
   refine AK (MK _ _ _ c) (Z ?_)
   refine AB (Z ?_)
   replace h:=AF h; obtain⟨e,i,h⟩:=h
   refine AK (Ii _ _ i) (Z ?_)
   refine AB (Z ?_)
   replace h:=AF h; obtain⟨l,t,h⟩:=h
   refine AK (II _ _ t) (Z ?_)
   refine AB (Z ?_)
   replace h:=AF h; obtain⟨s,o,h⟩:=h
   refine AK (IG _ _ _ o) (Z ?_)
   refine AB (Z ?_)
   replace h:=AF h; obtain⟨z,u1,h⟩:=h
   refine AK (IJ _ _ _ u1) (Z ?_)
   refine AD h (fun h=>Z ?_) (fun h=>Z ?_)
   ·refine AJ (AH rfl rfl (Cw a0 a1 d e l s true _ h):) (.one ⟨_,.done _,[(1000000000,144064),(1000000001,160016),(1000000002,176016),(1000000003,192032)],[(1000000500,1000),(1000000501,9009),(1000000502,11002),(1000000503,12007)],?_⟩)
    try simp only [go_sem]
   ·refine AD h (fun h=>Z ?_) (fun h=>Z ?_)
    ·refine AJ (AH rfl rfl (Cw a0 a1 d e l s true _ h):) (.one ⟨_,.done _,[(1000000000,144064),(1000000001,160016),(1000000002,176016),(1000000003,192032)],[(1000000500,1000),(1000000501,9009),(1000000502,11002),(1000000503,12007)],?_⟩)
     try simp only [go_sem]
    ·refine AJ (AH rfl rfl (Cw a0 a1 d e l s (!decide (s.2.2 =d.2.2)) _ h):) (.one ⟨_,.done _,[(1000000000,144064),(1000000001,160016),(1000000002,176016),(1000000003,192032)],[(1000000500,1000),(1000000501,9009),(1000000502,11002),(1000000503,12007)],?_⟩)
     try simp only [go_sem]
end Go.Proofs.YtckcfdggbbabfaaGreat.Ab
