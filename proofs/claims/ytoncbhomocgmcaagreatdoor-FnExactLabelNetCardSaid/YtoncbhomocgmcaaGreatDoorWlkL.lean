/-
 The functions do what their models say. Printed by wip/ab/gen.py.
-/
import Derived.Test.YtoncbhomocgmcaaGreatDoorModL
import Derived.Test.YtoncbhomocgmcaaGreatDoorTi2
import Derived.Test.YtoncbhomocgmcaaGreatDoorWlkS
import Derived.Test.YtoncbhomocgmcaaGreatDoorWlkI
namespace Go.Proofs.YtoncbhomocgmcaaGreatDoor.Ab
set_option linter.unusedVariables false
set_option linter.unusedSimpArgs false
set_option maxRecDepth 20000
set_option maxHeartbeats 4000000
open Go.RowKit
theorem Oy (a0 r) (h:F9 a0=some r):AC Tryz.prog 5 [.agg (Net.avs a0)] (.tup [.agg (Labelled.rv r.1),.int .i64 r.2]):=by
 unfold F9 at h
 refine acF Tryz.func5 mixed (h:=Z ?_)
 exact AI (k2 T8 So) h
theorem GQ (n:Nat):(∀ (a0:List ByteArray) (u:Int) (f1:(ByteArray→Option Bool)) (g1:FuncId) (c1:List AV) (s1:Still c1) (h1:∀ (y0:ByteArray) (q:Bool),f1 y0=some q→AC Tryz.prog g1 (fnA c1 [.str y0]) (.bool q)) (r:Int),Aw n a0 u f1=some r→BE Tryz.prog Tryz.f66 [1,0,1,0] (.int .i64 r) ⟨[(0,.ro (a0.map AT)),(1,.fn g1 c1),(7,.int .i64 (a0.length:Int)),(8,.int .i64 u)],[],[]⟩):=by
 induction n with
 |zero=>exact((fun _ _ _ _ _ _ _ _ h=>by rw [Aw] at h; cases h))
 | succ n ih=>
  have ih0:=ih
  ·intro a0 u f1 g1 c1 s1 h1 r h
   rw [Aw] at h
   refine Bn rfl rfl ?_
   try simp only [go_sem,s1.k,s1.r,s1.c,s1.p,s1.o,s1.f]
   refine Bw ?_
   try simp only [go_sem,s1.k,s1.r,s1.c,s1.p,s1.o,s1.f]
   refine AO h (fun h=>?_) (fun h=>?_)
   ·try simp only [go_sem,s1.k,s1.r,s1.c,s1.p,s1.o,s1.f]
    refine D3 ?_
    try simp only [go_sem,s1.k,s1.r,s1.c,s1.p,s1.o,s1.f]
    replace h:=AJ h; obtain⟨w,y,h⟩:=h
    refine Aq y rfl ?_
    try simp only [go_sem,s1.k,s1.r,s1.c,s1.p,s1.o,s1.f]
    replace h:=AJ h; obtain⟨g,j,h⟩:=h
    refine AU (h1 _ _ j) ?_
    try simp only [go_sem,s1.k,s1.r,s1.c,s1.p,s1.o,s1.f]
    refine D3 ?_
    try simp only [go_sem,s1.k,s1.r,s1.c,s1.p,s1.o,s1.f]
    refine AO h (fun h=>?_) (fun h=>?_)
    ·try simp only [go_sem,s1.k,s1.r,s1.c,s1.p,s1.o,s1.f]
     cases h
     simp only [go_sem,s1.k,s1.r,s1.c,s1.p,s1.o,s1.f]
    ·try simp only [go_sem,s1.k,s1.r,s1.c,s1.p,s1.o,s1.f]
     refine D3 ?_
     try simp only [go_sem,s1.k,s1.r,s1.c,s1.p,s1.o,s1.f]
     refine R0 (EF rfl rfl (ih0 a0 (IntKind.i64.wrap (u+1)) f1 g1 c1 s1 h1 _ h):) (.one ⟨_,.done _,[],[],?_⟩)
     try simp only [go_sem,s1.k,s1.r,s1.c,s1.p,s1.o,s1.f]
   ·try simp only [go_sem,s1.k,s1.r,s1.c,s1.p,s1.o,s1.f]
    refine D3 ?_
    try simp only [go_sem,s1.k,s1.r,s1.c,s1.p,s1.o,s1.f]
    cases h
    simp only [go_sem,s1.k,s1.r,s1.c,s1.p,s1.o,s1.f]
theorem Hr (a0:List ByteArray) (f1:(ByteArray→Option Bool)) (g1:FuncId) (c1:List AV) (s1:Still c1) (h1:∀ (y0:ByteArray) (q:Bool),f1 y0=some q→AC Tryz.prog g1 (fnA c1 [.str y0]) (.bool q)) (r:Int) (h:C2 a0 f1=some r):AC Tryz.prog 66 [.ro (a0.map AT),.fn g1 c1] (.int .i64 r):=by
 unfold C2 at h
 refine acF Tryz.func66 mixed (h:=?_)
 try simp only [go_sem,s1.k,s1.r,s1.c,s1.p,s1.o,s1.f]
 refine EX (EF rfl rfl (GQ fuel a0 0 f1 g1 c1 s1 h1 _ h):) (.one ⟨_,.done _,[],[],?_⟩)
 try simp only [go_sem,s1.k,s1.r,s1.c,s1.p,s1.o,s1.f]
theorem GR (a0:List ByteArray) (f1:(ByteArray→Option Bool)) (g1:FuncId) (c1:List AV) (s1:Still c1) (h1:∀ (y0:ByteArray) (q:Bool),f1 y0=some q→AC Tryz.prog g1 (fnA c1 [.str y0]) (.bool q)) (r:Bool) (h:CG a0 f1=some r):AC Tryz.prog 36 [.ro (a0.map AT),.fn g1 c1] (.bool r):=by
 unfold CG at h
 refine acF Tryz.func36 mixed (h:=?_)
 try simp only [go_sem,s1.k,s1.r,s1.c,s1.p,s1.o,s1.f]
 replace h:=AJ h; obtain⟨u,w,h⟩:=h
 refine AU (Hr _ _ g1 c1 s1 h1 _ w) ?_
 try simp only [go_sem,s1.k,s1.r,s1.c,s1.p,s1.o,s1.f]
 refine D3 ?_
 try simp only [go_sem,s1.k,s1.r,s1.c,s1.p,s1.o,s1.f]
 cases h
 simp only [go_sem,s1.k,s1.r,s1.c,s1.p,s1.o,s1.f]
theorem Lu (a0 r) (h:E2 a0=some r):AC Tryz.prog 37 [.str a0] (.bool r):=by
 unfold E2 at h
 refine acF Tryz.func37 mixed (h:=Z ?_)
 exact AI trivial h
theorem OU (a0 r) (h:E9 a0=some r):AC Tryz.prog 18 [.ro (a0.map AT)] (.bool r):=by
 unfold E9 at h
 refine acF Tryz.func18 mixed (h:=Z ?_)
 replace h:=AJ h; obtain⟨u,w,h⟩:=h
 refine AU (GR _ _ 37 [] (Still.of rfl) (fun y0 q hq=>Lu y0  q hq) _ w) (Z ?_)
 exact AI trivial h
theorem JY (a0 r) (h:Ex a0=some r):AC Tryz.prog 7 [.agg (Net.avs a0)] (.tup [.agg (Labelled.rv r.1),.int .i64 r.2]):=by
 unfold Ex at h
 refine acF Tryz.func7 mixed (h:=Z ?_)
 refine AS ?_
 replace h:=AJ h; obtain⟨u,w,h⟩:=h
 rcases readNet_cases w with hc|⟨hc,hv⟩
 ·refine caG ⟨[],[],[],(r5 1501 32017 []),[(1601,32016)],true⟩ (Qt _ _ w hc) (Z ?_)
  refine AS ?_
  refine Hf (fun y=>?_) (fun y=>?_)
  ·replace h:=ifT (c:=(!decide (u.2.2 =0))) y h
   try simp only [go_sem]
   exact AI trivial h
  ·replace h:=ifF (c:=(!decide (u.2.2 =0))) y h
   try simp only [go_sem]
   replace h:=AJ h; obtain⟨q,g,h⟩:=h
   refine AU (OU _ _ g) (Z ?_)
   refine AS ?_
   refine AO h (fun h=>Z ?_) (fun h=>Z ?_)
   ·exact AI trivial h
   ·refine AS ?_
    refine BS [false,false,false,false,false,false,true,true] (Tr.sq [6,7] .fin) (by kernel_rfl) (Z ?_)
    exact AI trivial h
 ·subst hv
  refine AZ (Qu _ hc) (by (first|rfl|(simp only [go_sem]; rfl))) (by first|rfl|(simp only [go_sem])) (Z ?_)
  refine AS ?_
  refine Hf (fun y=>?_) (fun y=>absurd y (by decide))
  replace h:=ifT (c:=(!decide ((1:Int)=0))) y h
  try simp only [go_sem]
  exact AI trivial h
theorem HJ (u:Labelled × Int) (w:Int × (List Int) × (List Core) × (List ByteArray)) (y:Bool) (r:Bool) (h:B1 u w y=some r):BE Tryz.prog Tryz.f3 [1,1,1,1,1,1,1,1,1,1,1,1,1,1,1,1,1,1,1,0,1] (.bool r) ⟨[(7,.box 1000002500 0),(10,.int .i64 w.1),(87,.bool y)],[(1000002000,some ⟨List.map AB w.2.1,some 1,0,.no⟩),(1000002001,some ⟨List.map Core.ds w.2.2.1,some 4,0,.no⟩),(1000002002,some ⟨List.map AT w.2.2.2,some 1,0,.no⟩)],[(1000002500,some [.int .i64 u.1.term.kind,.int .i64 u.1.term.value,.own 1000002000,.own 1000002001,.own 1000002002])]⟩:=by
 unfold B1 at h
 exact AI (k1 Gc) h
theorem HK (a0:Net) (u:Labelled × Int) (w:Labelled × Int) (y:Bool) (r:Bool) (h:BY a0 u w y=some r):BE Tryz.prog Tryz.f3 [1,1,1,1,1,1,1,1,1,1,1,0,1] (.bool r) ⟨[(1,.box 1000001500 0),(4,.box 1000001501 0),(5,.int .i64 u.2),(7,.box 1000001502 0),(61,.bool y)],[(1000001000,some ⟨List.map AB u.1.term.data,some 1,0,.no⟩),(1000001001,some ⟨List.map Core.ds u.1.term.kids,some 4,0,.no⟩),(1000001002,some ⟨List.map AT u.1.labels,some 1,0,.no⟩),(1000001003,some ⟨List.map AB w.1.term.data,some 1,0,.no⟩),(1000001004,some ⟨List.map Core.ds w.1.term.kids,some 4,0,.no⟩),(1000001005,some ⟨List.map AT w.1.labels,some 1,0,.no⟩)],[(1000001500,some [.ro (a0.agents.map Agent.ds)]),(1000001501,some [.int .i64 u.1.term.kind,.int .i64 u.1.term.value,.own 1000001000,.own 1000001001,.own 1000001002]),(1000001502,some [.int .i64 w.1.term.kind,.int .i64 w.1.term.value,.own 1000001003,.own 1000001004,.own 1000001005])]⟩:=by
 unfold BY at h
 refine Bn rfl rfl (Z ?_)
 refine AO h (fun h=>Z ?_) (fun h=>Z ?_)
 ·exact AI trivial h
 ·refine AS ?_
  replace h:=AJ h; obtain⟨q,g,h⟩:=h
  refine caG ⟨[],(r3 1 1000001003 []),[],[],[],true⟩ (LC _ _ (some 1) (some 4) (some 1) _ g) (Z ?_)
  exact AI (k5 Gc J9 JY FP HJ) h
theorem HL (a0:Net) (u:Labelled × Int) (w:Net) (y:Labelled × Int) (q:Bool) (r:Bool) (h:B2 a0 u w y q=some r):BE Tryz.prog Tryz.f3 [1,1,1,1,1,1,1,0,1] (.bool r) ⟨[(1,.box 1000000500 0),(4,.box 1000000501 0),(5,.int .i64 u.2),(6,.box 1000000502 0),(7,.box 1000000503 0),(8,.int .i64 y.2),(40,.bool q)],[(1000000000,some ⟨List.map AB u.1.term.data,some 1,0,.no⟩),(1000000001,some ⟨List.map Core.ds u.1.term.kids,some 4,0,.no⟩),(1000000002,some ⟨List.map AT u.1.labels,some 1,0,.no⟩),(1000000003,some ⟨List.map Agent.ds w.agents,some 5,0,.no⟩),(1000000004,some ⟨List.map AB y.1.term.data,some 1,0,.no⟩),(1000000005,some ⟨List.map Core.ds y.1.term.kids,some 4,0,.no⟩),(1000000006,some ⟨List.map AT y.1.labels,some 1,0,.no⟩)],[(1000000500,some [.ro (a0.agents.map Agent.ds)]),(1000000501,some [.int .i64 u.1.term.kind,.int .i64 u.1.term.value,.own 1000000000,.own 1000000001,.own 1000000002]),(1000000502,some [.own 1000000003]),(1000000503,some [.int .i64 y.1.term.kind,.int .i64 y.1.term.value,.own 1000000004,.own 1000000005,.own 1000000006])]⟩:=by
 unfold B2 at h
 refine Bn rfl rfl (Z ?_)
 refine AO h (fun h=>Z ?_) (fun h=>Z ?_)
 ·exact AI trivial h
 ·refine AS ?_
  refine BS [] .fin (by kernel_rfl) (Z ?_)
  replace h:=AJ h; obtain⟨g,j,h⟩:=h
  refine AU (J9 _ _ j) (Z ?_)
  replace h:=AJ h; obtain⟨k,b,h⟩:=h
  refine AU (T9 _ _ _ b) (Z ?_)
  refine AS ?_
  refine AO h (fun h=>Z ?_) (fun h=>Z ?_)
  ·exact AI trivial h
  ·refine AS ?_
   replace h:=AJ h; obtain⟨d,c,h⟩:=h
   refine caG ⟨[],[(1,1000000003)],[],[],[],true⟩ (Qx _ _ (some 5) _ c) (Z ?_)
   exact AI (k2 HK FP) h
theorem Il (a0 r) (h:Dh a0=some r):AC Tryz.prog 3 [.agg (Net.avs a0)] (.bool r):=by
 unfold Dh at h
 refine acF Tryz.func3 mixed (h:=Z ?_)
 exact AI (k6 UA J9 Oy JY FP HL) h
end Go.Proofs.YtoncbhomocgmcaaGreatDoor.Ab
