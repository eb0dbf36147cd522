/-
 The functions do what their models say. Printed by wip/ab/gen.py.
-/
import Derived.Test.YtckcfdggbbabfaaGreatModI
import Derived.Test.YtckcfdggbbabfaaGreatTi2
import Derived.Test.YtckcfdggbbabfaaGreatWlkG
namespace Go.Proofs.YtckcfdggbbabfaaGreat.Ab
set_option linter.unusedVariables false
set_option linter.unusedSimpArgs false
set_option maxRecDepth 20000
set_option maxHeartbeats 4000000
open Go.RowKit
theorem Qi (a0 a1 a2 r) (h:Hz a0 a1 a2=some r):AC Tryz.prog 30 [.ro (List.map Net.ds a0),.agg (Net.avs a1),.int .i64 a2] (.tup [.agg (Net.rv r.1),.int .i64 r.2]):=by
 unfold Hz at h
 refine AZ mixed Tryz.func30 rfl rfl rfl (by kernel_rfl) (by kernel_rfl) (Z ?_)
 refine AB (Z ?_)
 replace h:=AF h; obtain⟨u,w,h⟩:=h
 refine AJ (SN _ _ w) (Z ?_)
 refine AB (Z ?_)
 refine AD h (fun h=>Z ?_) (fun h=>Z ?_)
 ·cases h
  simp only [go_sem]
 ·refine AB (Z ?_)
  replace h:=AF h; obtain⟨y,q,h⟩:=h
  refine AJ (SO _ _ _ q) (Z ?_)
  refine AB (Z ?_)
  refine AD h (fun h=>Z ?_) (fun h=>Z ?_)
  ·cases h
   simp only [go_sem]
  ·refine AB (Z ?_)
   replace h:=AF h; obtain⟨g,j,h⟩:=h
   refine AJ (UF _ _ j) (Z ?_)
   refine AB (Z ?_)
   replace h:=AF h; obtain⟨k,b,h⟩:=h
   refine AP ⟨[],[(1001,112000)],[(1,7001,0)],[(1501,128080)],[],true⟩ (by kernel_rfl) (Vb _ _ _ _ _ b) (by kernel_rfl) (Z ?_)
   refine AB (Z ?_)
   refine AD h (fun h=>Z ?_) (fun h=>Z ?_)
   ·cases h
    simp only [go_sem]
   ·refine AB (Z ?_)
    replace h:=AF h; obtain⟨d,c,h⟩:=h
    refine AP ⟨[],[(1001,128080)],[(1,7001,0)],[(1501,176000)],[],true⟩ (by kernel_rfl) (SP _ _ c) (by kernel_rfl) (Z ?_)
    refine AB (Z ?_)
    cases h
    simp only [go_sem]
theorem Ll (a0 a1 a2 r) (h:GW a0 a1 a2=some r):AC Tryz.prog 31 [.ro (List.map Net.ds a0),.agg (Net.avs a1),.int .i64 a2] (.tup [.agg (Net.rv r.1),.int .i64 r.2]):=by
 unfold GW at h
 refine AZ mixed Tryz.func31 rfl rfl rfl (by kernel_rfl) (by kernel_rfl) (Z ?_)
 refine AB (Z ?_)
 replace h:=AF h; obtain⟨u,w,h⟩:=h
 refine AJ (La _ _ w) (Z ?_)
 refine AB (Z ?_)
 refine AD h (fun h=>Z ?_) (fun h=>Z ?_)
 ·cases h
  simp only [go_sem]
 ·refine AB (Z ?_)
  replace h:=AF h; obtain⟨y,q,h⟩:=h
  refine AJ (UD _ _ _ q) (Z ?_)
  refine AB (Z ?_)
  refine AD h (fun h=>Z ?_) (fun h=>Z ?_)
  ·cases h
   simp only [go_sem]
  ·refine AB (Z ?_)
   replace h:=AF h; obtain⟨g,j,h⟩:=h
   refine AP ⟨[],[],[],[(1501,112033)],[(1601,112032),(1602,112034)],true⟩ (by kernel_rfl) (Np _ _ _ j) (by kernel_rfl) (Z ?_)
   refine AB (Z ?_)
   replace h:=AF h; obtain⟨k,b,h⟩:=h
   refine AP ⟨[],[(1001,112033)],[(1,112032,0),(2,112034,0)],[(1501,128032)],[],true⟩ (by kernel_rfl) (Jr _ _ _ b) (by kernel_rfl) (Z ?_)
   refine AB (Z ?_)
   refine AD h (fun h=>Z ?_) (fun h=>Z ?_)
   ·cases h
    simp only [go_sem]
   ·refine AB (Z ?_)
    replace h:=AF h; obtain⟨d,c,h⟩:=h
    refine AP ⟨[],[(1001,128032)],[(1,112032,0),(2,112034,0)],[(1501,176016),(1502,176017)],[],true⟩ (by kernel_rfl) (Kz _ _ c) (by kernel_rfl) (Z ?_)
    refine AB (Z ?_)
    cases h
    simp only [go_sem]
theorem Fi (u:Int × (List Agent)) (w:Bool) (r:Bool) (h:Ce u w=some r):BG Tryz.prog Tryz.f4 [1,1,1,1,1,1,1,1,1,1,1,1,1,1,1,1,1,1,1,1,1,1,1,1,0,1] (.bool r) ⟨[(12,.box 1000002500 0),(15,.int .i64 u.1),(115,.bool w)],[(1000002000,some ⟨List.map Agent.ds u.2,some 5,0,false⟩)],[(1000002500,some [.own 1000002000])]⟩:=by
 unfold Ce at h
 refine AT rfl rfl (Z ?_)
 refine AD h (fun h=>Z ?_) (fun h=>Z ?_)
 ·cases h
  simp only [go_sem]
 ·refine AB (Z ?_)
  replace h:=AF h; obtain⟨y,q,h⟩:=h
  refine AJ (M9 _ _ _ q) (Z ?_)
  refine AB (Z ?_)
  refine AD h (fun h=>Z ?_) (fun h=>Z ?_)
  ·cases h
   simp only [go_sem]
  ·refine AB (Z ?_)
   refine AD h (fun h=>Z ?_) (fun h=>Z ?_)
   ·cases h
    simp only [go_sem]
   ·refine AB (Z ?_)
    cases h
    simp only [go_sem]
theorem D0 (a0:List Net) (a1:Net) (a2:Int) (u:Net × Int) (w:Net × Int) (y:Bool) (r:Bool) (h:B8 a0 a1 a2 u w y=some r):BG Tryz.prog Tryz.f4 [1,1,1,1,1,1,1,1,1,1,1,1,1,1,1,1,0,1] (.bool r) ⟨[(0,.ro (List.map Net.ds a0)),(2,.int .i64 a2),(4,.box 1000001500 0),(8,.box 1000001501 0),(9,.int .i64 u.2),(12,.box 1000001502 0),(86,.bool y)],[(1000001000,some ⟨List.map Agent.ds u.1.agents,some 5,0,false⟩),(1000001001,some ⟨List.map Agent.ds w.1.agents,some 5,0,false⟩)],[(1000001500,some [.ro (List.map Agent.ds a1.agents)]),(1000001501,some [.own 1000001000]),(1000001502,some [.own 1000001001])]⟩:=by
 unfold B8 at h
 refine AT rfl rfl (Z ?_)
 refine AD h (fun h=>Z ?_) (fun h=>Z ?_)
 ·cases h
  simp only [go_sem]
 ·refine AB (Z ?_)
  replace h:=AF h; obtain⟨q,g,h⟩:=h
  refine AP ⟨[],[(1,1000001001)],[],[],[],true⟩ (by kernel_rfl) (NA _ _ (some 5) _ g) (by kernel_rfl) (Z ?_)
  refine AB (Z ?_)
  replace h:=AF h; obtain⟨j,k,h⟩:=h
  refine AJ (M9 _ _ _ k) (Z ?_)
  refine AB (Z ?_)
  refine AD h (fun h=>Z ?_) (fun h=>Z ?_)
  ·cases h
   simp only [go_sem]
  ·refine AB (Z ?_)
   refine AD h (fun h=>Z ?_) (fun h=>Z ?_)
   ·cases h
    simp only [go_sem]
   ·refine AB (Z ?_)
    refine Af [false,false,false,false,false,false,false,false,false,false,true,true] (Tr.sq [10,11] .fin) (by kernel_rfl) (Z ?_)
    replace h:=AF h; obtain⟨b,d,h⟩:=h
    refine AJ (Id _ _ d) (Z ?_)
    replace h:=AF h; obtain⟨c,e,h⟩:=h
    refine AJ (IF _ _ e) (Z ?_)
    replace h:=AF h; obtain⟨i,l,h⟩:=h
    refine AJ (Ll _ _ _ _ l) (Z ?_)
    refine AB (Z ?_)
    replace h:=AF h; obtain⟨t,s,h⟩:=h
    refine AJ (IG _ _ _ s) (Z ?_)
    refine AD h (fun h=>Z ?_) (fun h=>Z ?_)
    ·refine AK (AH rfl rfl (Fi q true _ h):) (.one ⟨_,.done _,[(1000002000,1000001001)],[(1000002500,1000001502)],?_⟩)
     try simp only [go_sem]
    ·refine AK (AH rfl rfl (Fi q (!decide (i.2 =u.2)) _ h):) (.one ⟨_,.done _,[(1000002000,1000001001)],[(1000002500,1000001502)],?_⟩)
     try simp only [go_sem]
theorem Fj (a0:List Net) (a1:Net) (a2:Int) (u:Net × Int) (w:(List Net)) (y:Net) (q:Net × Int) (g:Bool) (r:Bool) (h:Cf a0 a1 a2 u w y q g=some r):BG Tryz.prog Tryz.f4 [1,1,1,1,1,1,1,1,1,1,0,1] (.bool r) ⟨[(0,.ro (List.map Net.ds a0)),(2,.int .i64 a2),(4,.box 1000000500 0),(8,.box 1000000501 0),(9,.int .i64 u.2),(10,.own 1000000001),(11,.box 1000000502 0),(12,.box 1000000503 0),(13,.int .i64 q.2),(57,.bool g)],[(1000000000,some ⟨List.map Agent.ds u.1.agents,some 5,0,false⟩),(1000000001,some ⟨List.map Net.ds w,some 1,0,false⟩),(1000000002,some ⟨List.map Agent.ds y.agents,some 5,0,false⟩),(1000000003,some ⟨List.map Agent.ds q.1.agents,some 5,0,false⟩)],[(1000000500,some [.ro (List.map Agent.ds a1.agents)]),(1000000501,some [.own 1000000000]),(1000000502,some [.own 1000000002]),(1000000503,some [.own 1000000003])]⟩:=by
 unfold Cf at h
 refine AT rfl rfl (Z ?_)
 refine AD h (fun h=>Z ?_) (fun h=>Z ?_)
 ·cases h
  simp only [go_sem]
 ·refine AB (Z ?_)
  replace h:=AF h; obtain⟨j,k,h⟩:=h
  refine AJ (Id _ _ k) (Z ?_)
  replace h:=AF h; obtain⟨b,d,h⟩:=h
  refine AJ (UG _ _ _ d) (Z ?_)
  refine AB (Z ?_)
  refine AD h (fun h=>Z ?_) (fun h=>Z ?_)
  ·cases h
   simp only [go_sem]
  ·refine AB (Z ?_)
   refine Af [] .fin (by kernel_rfl) (Z ?_)
   replace h:=AF h; obtain⟨c,e,h⟩:=h
   refine AJ (IF _ _ e) (Z ?_)
   replace h:=AF h; obtain⟨i,l,h⟩:=h
   refine AJ (IG _ _ _ l) (Z ?_)
   refine AB (Z ?_)
   refine AD h (fun h=>Z ?_) (fun h=>Z ?_)
   ·cases h
    simp only [go_sem]
   ·refine AB (Z ?_)
    replace h:=AF h; obtain⟨t,s,h⟩:=h
    refine AP ⟨[],[(1,1000000001)],[],[],[],true⟩ (by kernel_rfl) (Qj _ _ (some 1) _ s) (by kernel_rfl) (Z ?_)
    refine AB (Z ?_)
    replace h:=AF h; obtain⟨o,z,h⟩:=h
    refine AP ⟨[],[(1,1000000002)],[],[],[],true⟩ (by kernel_rfl) (NA _ _ (some 5) _ z) (by kernel_rfl) (Z ?_)
    refine AB (Z ?_)
    refine AD h (fun h=>Z ?_) (fun h=>Z ?_)
    ·refine AK (AH rfl rfl (D0 a0 a1 a2 u q true _ h):) (.one ⟨_,.done _,[(1000001000,1000000000),(1000001001,1000000003)],[(1000001500,1000000500),(1000001501,1000000501),(1000001502,1000000503)],?_⟩)
     try simp only [go_sem]
    ·replace h:=AF h; obtain⟨u1,u2,h⟩:=h
     refine AJ (IG _ _ _ u2) (Z ?_)
     refine AD h (fun h=>Z ?_) (fun h=>Z ?_)
     ·refine AK (AH rfl rfl (D0 a0 a1 a2 u q true _ h):) (.one ⟨_,.done _,[(1000001000,1000000000),(1000001001,1000000003)],[(1000001500,1000000500),(1000001501,1000000501),(1000001502,1000000503)],?_⟩)
      try simp only [go_sem]
     ·refine AK (AH rfl rfl (D0 a0 a1 a2 u q (!decide (q.2 =u.2)) _ h):) (.one ⟨_,.done _,[(1000001000,1000000000),(1000001001,1000000003)],[(1000001500,1000000500),(1000001501,1000000501),(1000001502,1000000503)],?_⟩)
      try simp only [go_sem]
theorem Kf (a0 a1 a2 r) (h:EY a0 a1 a2=some r):AC Tryz.prog 4 [.ro (List.map Net.ds a0),.agg (Net.avs a1),.int .i64 a2] (.bool r):=by
 unfold EY at h
 refine AZ mixed Tryz.func4 rfl rfl rfl (by kernel_rfl) (by kernel_rfl) (Z ?_)
 replace h:=AF h; obtain⟨u,w,h⟩:=h
 refine AJ (UH _ _ _ w) (Z ?_)
 refine AB (Z ?_)
 refine AD h (fun h=>Z ?_) (fun h=>Z ?_)
 ·cases h
  simp only [go_sem]
 ·refine AB (Z ?_)
  replace h:=AF h; obtain⟨y,q,h⟩:=h
  refine AJ (P8 _ _ _ q) (Z ?_)
  refine AB (Z ?_)
  refine AD h (fun h=>Z ?_) (fun h=>Z ?_)
  ·cases h
   simp only [go_sem]
  ·refine AB (Z ?_)
   refine Af [false,false,false,false,false,false,false,false,false,false,true,true] (Tr.sq [10,11] .fin) (by kernel_rfl) (Z ?_)
   replace h:=AF h; obtain⟨g,j,h⟩:=h
   refine AJ (Id _ _ j) (Z ?_)
   replace h:=AF h; obtain⟨k,b,h⟩:=h
   refine AJ (IF _ _ b) (Z ?_)
   replace h:=AF h; obtain⟨d,c,h⟩:=h
   refine AJ (Qi _ _ _ _ c) (Z ?_)
   refine AB (Z ?_)
   replace h:=AF h; obtain⟨e,i,h⟩:=h
   refine AJ (Id _ _ i) (Z ?_)
   refine AB (Z ?_)
   replace h:=AF h; obtain⟨l,t,h⟩:=h
   refine AJ (IF _ _ t) (Z ?_)
   refine AB (Z ?_)
   replace h:=AF h; obtain⟨s,o,h⟩:=h
   refine AJ (Ll _ _ _ _ o) (Z ?_)
   refine AB (Z ?_)
   replace h:=AF h; obtain⟨z,u1,h⟩:=h
   refine AJ (IG _ _ _ u1) (Z ?_)
   refine AD h (fun h=>Z ?_) (fun h=>Z ?_)
   ·refine AK (AH rfl rfl (Fj a0 a1 a2 d e l s true _ h):) (.one ⟨_,.done _,[(1000000000,144080),(1000000001,160016),(1000000002,176016),(1000000003,192048)],[(1000000500,1000),(1000000501,9009),(1000000502,11002),(1000000503,12007)],?_⟩)
    try simp only [go_sem]
   ·refine AK (AH rfl rfl (Fj a0 a1 a2 d e l s (!decide (s.2 =d.2)) _ h):) (.one ⟨_,.done _,[(1000000000,144080),(1000000001,160016),(1000000002,176016),(1000000003,192048)],[(1000000500,1000),(1000000501,9009),(1000000502,11002),(1000000503,12007)],?_⟩)
    try simp only [go_sem]
end Go.Proofs.YtckcfdggbbabfaaGreat.Ab
