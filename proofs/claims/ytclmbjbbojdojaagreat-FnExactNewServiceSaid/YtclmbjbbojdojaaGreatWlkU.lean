/-
 The functions do what their models say. Printed by wip/ab/gen.py.
-/
import Derived.Test.YtclmbjbbojdojaaGreatModU
import Derived.Test.YtclmbjbbojdojaaGreatTi2
import Derived.Test.YtclmbjbbojdojaaGreatWlk
namespace Go.Proofs.YtclmbjbbojdojaaGreat.Ab
set_option linter.unusedVariables false
set_option linter.unusedSimpArgs false
set_option maxRecDepth 20000
set_option maxHeartbeats 4000000
open Go.RowKit
theorem MI (n:Nat):(∀a0 u w r,Bk n a0 u w=some r→Ax Tryz.prog Tryz.f138 [1,1,0,1,0] (.ow (some 2) (List.map Port.ds r)) ⟨[(3,.own 1000000000),(10,.ro (List.map Agent.ds a0.agents)),(11,.int .i64 ((List.length a0.agents:Nat):Int)),(12,.int .i64 w)],[(1000000000,some ⟨List.map Port.ds u,some 2,0,.no⟩)],[]⟩)∧
    (∀a0 w y q g r,Cm n a0 w y q g=some r→Ax Tryz.prog Tryz.f138 [1,1,0,1,0,0,1,1,0,0,1,1,0] (.ow (some 2) (List.map Port.ds r)) ⟨[(3,.own 1000004000),(4,.int .i64 w),(10,.ro (List.map Agent.ds a0.agents)),(11,.int .i64 ((List.length a0.agents:Nat):Int)),(12,.int .i64 w),(19,.int .i64 ((List.length y.ports:Nat):Int)),(20,.int .i64 g)],[(1000004000,some ⟨List.map Port.ds q,some 2,0,.no⟩)],[]⟩):=by
 induction n with
 |zero=>exact⟨(fun _ _ _ _ h=>by rw [Bk] at h; cases h),(fun _ _ _ _ _ _ h=>by rw [Cm] at h; cases h)⟩
 | succ n ih=>
  obtain⟨ih0,ih1⟩:=ih
  refine⟨?_,?_⟩
  ·intro a0 u w r h
   rw [Bk] at h
   refine AS rfl rfl (Z ?_)
   refine AY (Z ?_)
   refine AD h (fun h=>Z ?_) (fun h=>Z ?_)
   ·refine AF ?_
    replace h:=AB h; obtain⟨y,j,h⟩:=h
    refine AL j (Agent.ds_len _) (Z ?_)
    refine AF ?_
    exact loF (ih1 a0 w y u 0 _ h) [(1000004000,1000000000)] []
   ·refine AF ?_
    cases h
    simp only [go_sem]
  ·intro a0 w y q g r h
   rw [Cm] at h
   refine AS rfl rfl (Z ?_)
   refine AY (Z ?_)
   refine AD h (fun h=>Z ?_) (fun h=>Z ?_)
   ·refine AF ?_
    replace h:=AB h; obtain⟨k,b,h⟩:=h
    have hq_:=Au b
    obtain⟨hv9005a,hv9005b⟩:=hq_
    refine BN .no (Z ?_)
    refine Ad (by refine⟨?_,?_⟩ <;> (try simp only [List.length_map,List.length_append,List.length_cons,List.length_nil] at*) <;> (try unfold maxLen) <;> omega) (Z ?_)
    refine AT (List.map Port.ds k) (by rw [← hv9005b]; simp only [List.map_append,List.map_cons,List.map_nil,List.nil_append,List.append_nil,go_sem,Port.ds_eq]) (Z ?_)
    refine AF ?_
    exact lpF (ih1 a0 w y k (IntKind.i64.wrap (g+1)) _ h) [(1000004000,144080)] []
   ·refine AF ?_
    exact lpF (ih0 a0 q (IntKind.i64.wrap (w+1)) _ h) [(1000000000,1000004000)] []
theorem NG (n:Nat):(∀a0 u w r,Bk n a0 u w=some r→Ax Tryz.prog Tryz.f138 [1,1,0,1,0] (.ow (some 2) (List.map Port.ds r)) ⟨[(3,.own 1000000000),(10,.ro (List.map Agent.ds a0.agents)),(11,.int .i64 ((List.length a0.agents:Nat):Int)),(12,.int .i64 w)],[(1000000000,some ⟨List.map Port.ds u,some 2,0,.no⟩)],[]⟩):=(MI n).1
theorem Ke (a0 r) (h:Ex a0=some r):AC Tryz.prog 138 [.rop (Net.avs a0) 0] (.ow (some 2) (List.map Port.ds r)):=by
 unfold Ex at h
 refine acF Tryz.func138 mixed (h:=Z ?_)
 refine Cd (B9 rfl rfl (NG fuel a0 [] 0 _ h):) (.one ⟨_,.slot 3 2000000000 (some 2) .no (by simp only [go_sem]) (by simp only [go_sem]) (.done _),[(1000000000,2000000000)],[],?_⟩)
 simp only [go_sem]
 all_goals try rfl
theorem Ic (n:Nat):(∀ (a0:List Int) (u:Int) (f1:(Int→Option Bool)) (g1:FuncId) (c1:List AV) (s1:Still c1) (h1:∀ (y0:Int) (q:Bool),f1 y0=some q→AC Tryz.prog g1 (fnA c1 [.int .i64 y0]) (.bool q)) (r:Int),Aq n a0 u f1=some r→Ax Tryz.prog Tryz.f178 [1,0,1,0] (.int .i64 r) ⟨[(0,.ro (List.map AJ a0)),(1,.fn g1 c1),(7,.int .i64 ((List.length a0:Nat):Int)),(8,.int .i64 u)],[],[]⟩):=by
 induction n with
 |zero=>exact((fun _ _ _ _ _ _ _ _ h=>by rw [Aq] at h; cases h))
 | succ n ih=>
  have ih0:=ih
  ·intro a0 u f1 g1 c1 s1 h1 r h
   rw [Aq] at h
   refine AS rfl rfl ?_
   try simp only [go_sem,s1.k,s1.r,s1.c,s1.p,s1.o,s1.f]
   refine AY ?_
   try simp only [go_sem,s1.k,s1.r,s1.c,s1.p,s1.o,s1.f]
   refine AD h (fun h=>?_) (fun h=>?_)
   ·try simp only [go_sem,s1.k,s1.r,s1.c,s1.p,s1.o,s1.f]
    refine Cg ?_
    try simp only [go_sem,s1.k,s1.r,s1.c,s1.p,s1.o,s1.f]
    replace h:=AB h; obtain⟨w,y,h⟩:=h
    refine AL y rfl ?_
    try simp only [go_sem,s1.k,s1.r,s1.c,s1.p,s1.o,s1.f]
    replace h:=AB h; obtain⟨g,j,h⟩:=h
    refine AH (h1 _ _ j) ?_
    try simp only [go_sem,s1.k,s1.r,s1.c,s1.p,s1.o,s1.f]
    refine Cg ?_
    try simp only [go_sem,s1.k,s1.r,s1.c,s1.p,s1.o,s1.f]
    refine AD h (fun h=>?_) (fun h=>?_)
    ·try simp only [go_sem,s1.k,s1.r,s1.c,s1.p,s1.o,s1.f]
     cases h
     simp only [go_sem,s1.k,s1.r,s1.c,s1.p,s1.o,s1.f]
    ·try simp only [go_sem,s1.k,s1.r,s1.c,s1.p,s1.o,s1.f]
     refine Cg ?_
     try simp only [go_sem,s1.k,s1.r,s1.c,s1.p,s1.o,s1.f]
     refine P0 (B9 rfl rfl (ih0 a0 (IntKind.i64.wrap (u+1)) f1 g1 c1 s1 h1 _ h):) (.one ⟨_,.done _,[],[],?_⟩)
     try simp only [go_sem,s1.k,s1.r,s1.c,s1.p,s1.o,s1.f]
   ·try simp only [go_sem,s1.k,s1.r,s1.c,s1.p,s1.o,s1.f]
    refine Cg ?_
    try simp only [go_sem,s1.k,s1.r,s1.c,s1.p,s1.o,s1.f]
    cases h
    simp only [go_sem,s1.k,s1.r,s1.c,s1.p,s1.o,s1.f]
theorem Jw (a0:List Int) (f1:(Int→Option Bool)) (g1:FuncId) (c1:List AV) (s1:Still c1) (h1:∀ (y0:Int) (q:Bool),f1 y0=some q→AC Tryz.prog g1 (fnA c1 [.int .i64 y0]) (.bool q)) (r:Int) (h:EN a0 f1=some r):AC Tryz.prog 178 [.ro (List.map AJ a0),.fn g1 c1] (.int .i64 r):=by
 unfold EN at h
 refine acF Tryz.func178 mixed (h:=?_)
 try simp only [go_sem,s1.k,s1.r,s1.c,s1.p,s1.o,s1.f]
 refine Cd (B9 rfl rfl (Ic fuel a0 0 f1 g1 c1 s1 h1 _ h):) (.one ⟨_,.done _,[],[],?_⟩)
 try simp only [go_sem,s1.k,s1.r,s1.c,s1.p,s1.o,s1.f]
theorem FZ (a0:List Int) (f1:(Int→Option Bool)) (g1:FuncId) (c1:List AV) (s1:Still c1) (h1:∀ (y0:Int) (q:Bool),f1 y0=some q→AC Tryz.prog g1 (fnA c1 [.int .i64 y0]) (.bool q)) (r:Bool) (h:Ay a0 f1=some r):AC Tryz.prog 121 [.ro (List.map AJ a0),.fn g1 c1] (.bool r):=by
 unfold Ay at h
 refine acF Tryz.func121 mixed (h:=?_)
 try simp only [go_sem,s1.k,s1.r,s1.c,s1.p,s1.o,s1.f]
 replace h:=AB h; obtain⟨u,w,h⟩:=h
 refine AH (Jw _ _ g1 c1 s1 h1 _ w) ?_
 try simp only [go_sem,s1.k,s1.r,s1.c,s1.p,s1.o,s1.f]
 refine Cg ?_
 try simp only [go_sem,s1.k,s1.r,s1.c,s1.p,s1.o,s1.f]
 cases h
 simp only [go_sem,s1.k,s1.r,s1.c,s1.p,s1.o,s1.f]
theorem Kf (a0 r) (h:Hw a0=some r):AC Tryz.prog 292 [.int .i64 a0] (.bool r):=by
 unfold Hw at h
 refine acF Tryz.func292 mixed (h:=Z ?_)
 refine AD h (fun h=>Z ?_) (fun h=>Z ?_)
 ·refine AF ?_
  cases h
  simp only [go_sem]
 ·refine AF ?_
  cases h
  simp only [go_sem]
theorem G4 (a0:Int) (u:Bool) (r:Int) (h:EO a0 u=some r):Ax Tryz.prog Tryz.f272 [1,0,0,1,1,1] (.int .i64 r) ⟨[(0,.int .i64 a0),(18,.bool u)],[],[]⟩:=by
 unfold EO at h
 refine AS rfl rfl (Z ?_)
 refine AD h (fun h=>Z ?_) (fun h=>Z ?_)
 ·cases h
  simp only [go_sem]
 ·refine AF ?_
  replace h:=AB h; obtain⟨w,y,h⟩:=h
  refine AW y (Z ?_)
  cases h
  simp only [go_sem]
theorem G5 (a0:Int) (a1:Int) (u:Bool) (r:Int) (h:EP a0 a1 u=some r):Ax Tryz.prog Tryz.f272 [1,0,0,1] (.int .i64 r) ⟨[(0,.int .i64 a0),(1,.int .i64 a1),(5,.bool u)],[],[]⟩:=by
 unfold EP at h
 refine AS rfl rfl (Z ?_)
 refine AD h (fun h=>Z ?_) (fun h=>Z ?_)
 ·cases h
  simp only [go_sem]
 ·replace h:=AB h; obtain⟨w,y,h⟩:=h
  refine AH (Kf _ _ y) (Z ?_)
  refine AD h (fun h=>Z ?_) (fun h=>Z ?_)
  ·exact BS (G4 a0 true _ h) [] []
  ·refine AD h (fun h=>Z ?_) (fun h=>Z ?_)
   ·exact BS (G4 a0 true _ h) [] []
   ·exact BS (G4 a0 (!decide (a1=0)) _ h) [] []
theorem SZ (a0 a1 r) (h:HT a0 a1=some r):AC Tryz.prog 272 [.int .i64 a0,.int .i64 a1] (.int .i64 r):=by
 unfold HT at h
 refine acF Tryz.func272 mixed (h:=Z ?_)
 refine AD h (fun h=>Z ?_) (fun h=>Z ?_)
 ·refine AD h (fun h=>Z ?_) (fun h=>Z ?_)
  ·exact BS (G5 a0 a1 (decide (a1≤3)) _ h) [] []
  ·exact BS (G5 a0 a1 false _ h) [] []
 ·exact BS (G5 a0 a1 false _ h) [] []
theorem Qr (a0 a1 r) (h:Hx a0 a1=some r):AC Tryz.prog 273 [.int .i64 a0,.int .i64 a1] (.int .i64 r):=by
 unfold Hx at h
 refine acF Tryz.func273 mixed (h:=Z ?_)
 refine AD h (fun h=>Z ?_) (fun h=>Z ?_)
 ·cases h
  simp only [go_sem]
 ·refine AF ?_
  cases h
  simp only [go_sem]
theorem Qs (a0 r) (h:JW a0=some r):AC Tryz.prog 293 [.int .i64 a0] (.bool r):=by
 unfold JW at h
 refine acF Tryz.func293 mixed (h:=Z ?_)
 replace h:=AB h; obtain⟨u,w,h⟩:=h
 refine AH (Kf _ _ w) (Z ?_)
 refine AD h (fun h=>Z ?_) (fun h=>Z ?_)
 ·refine AD h (fun h=>Z ?_) (fun h=>Z ?_)
  ·refine AD h (fun h=>Z ?_) (fun h=>Z ?_)
   ·refine AF ?_
    cases h
    simp only [go_sem]
   ·refine AF ?_
    cases h
    simp only [go_sem]
  ·refine AF ?_
   cases h
   simp only [go_sem]
 ·refine AF ?_
  cases h
  simp only [go_sem]
theorem Sa (a0 r) (h:K6 a0=some r):AC Tryz.prog 294 [.int .i64 a0] (.bool r):=by
 unfold K6 at h
 refine acF Tryz.func294 mixed (h:=Z ?_)
 refine AD h (fun h=>Z ?_) (fun h=>Z ?_)
 ·refine AF ?_
  cases h
  simp only [go_sem]
 ·refine AF ?_
  cases h
  simp only [go_sem]
theorem QL (a0 a1 r) (h:Fr a0 a1=some r):AC Tryz.prog 274 [.int .i64 a0,.int .i64 a1] (.bool r):=by
 unfold Fr at h
 refine acF Tryz.func274 mixed (h:=Z ?_)
 replace h:=AB h; obtain⟨u,w,h⟩:=h
 refine AH (Kf _ _ w) (Z ?_)
 refine AD h (fun h=>Z ?_) (fun h=>Z ?_)
 ·refine AD h (fun h=>Z ?_) (fun h=>Z ?_)
  ·refine AF ?_
   cases h
   simp only [go_sem]
  ·replace h:=AB h; obtain⟨y,q,h⟩:=h
   refine AH (Qs _ _ q) (Z ?_)
   refine AD h (fun h=>Z ?_) (fun h=>Z ?_)
   ·replace h:=AB h; obtain⟨g,j,h⟩:=h
    refine AH (Sa _ _ j) (Z ?_)
    refine AF ?_
    cases h
    simp only [go_sem]
   ·refine AF ?_
    cases h
    simp only [go_sem]
 ·refine AF ?_
  cases h
  simp only [go_sem]
theorem Jr (a0 r) (h:E9 a0=some r):AC Tryz.prog 276 [.int .i64 a0] (.bool r):=by
 unfold E9 at h
 refine acF Tryz.func276 mixed (h:=Z ?_)
 refine AD h (fun h=>Z ?_) (fun h=>Z ?_)
 ·refine AF ?_
  cases h
  simp only [go_sem]
 ·refine AF ?_
  cases h
  simp only [go_sem]
theorem NH (a0 r) (h:Ey a0=some r):AC Tryz.prog 275 [.int .i64 a0] (.bool r):=by
 unfold Ey at h
 refine acF Tryz.func275 mixed (h:=Z ?_)
 replace h:=AB h; obtain⟨u,w,h⟩:=h
 refine AH (Jr _ _ w) (Z ?_)
 refine AF ?_
 cases h
 simp only [go_sem]
theorem QM (a0 r) (h:K7 a0=some r):AC Tryz.prog 277 [.int .i64 a0] (.bool r):=by
 unfold K7 at h
 refine acF Tryz.func277 mixed (h:=Z ?_)
 refine AD h (fun h=>Z ?_) (fun h=>Z ?_)
 ·refine AF ?_
  cases h
  simp only [go_sem]
 ·refine AF ?_
  cases h
  simp only [go_sem]
theorem Js (a0 r) (h:FA a0=some r):AC Tryz.prog 278 [.int .i64 a0] (.bool r):=by
 unfold FA at h
 refine acF Tryz.func278 mixed (h:=Z ?_)
 refine AD h (fun h=>Z ?_) (fun h=>Z ?_)
 ·refine AF ?_
  cases h
  simp only [go_sem]
 ·refine AF ?_
  cases h
  simp only [go_sem]
theorem Ap (u:Bool) (w:Bool) (r:Bool) (h:Aj u w=some r):Ax Tryz.prog Tryz.f243 [1,1,1,1,1] (.bool r) ⟨[(3,.bool u),(4,.bool w)],[],[]⟩:=by
 unfold Aj at h
 refine AS rfl rfl (Z ?_)
 refine AD h (fun h=>Z ?_) (fun h=>Z ?_)
 ·refine AF ?_
  cases h
  simp only [go_sem]
 ·refine AF ?_
  cases h
  simp only [go_sem]
theorem Fi (a0:Agent) (u:Bool) (r:Bool) (h:CN a0 u=some r):Ax Tryz.prog Tryz.f243 [1,0,1] (.bool r) ⟨[(1,.box 1000000500 0),(32,.bool u)],[],[(1000000500,some [.int .i64 a0.kind,.int .i64 a0.level,.int .i64 a0.value,.ro (List.map AJ a0.data),.ro (List.map Port.ds a0.ports)])]⟩:=by
 unfold CN at h
 refine AS rfl rfl (Z ?_)
 refine AD h (fun h=>Z ?_) (fun h=>Z ?_)
 ·cases h
  simp only [go_sem]
 ·refine AF ?_
  refine Aa [] .fin (by kernel_rfl) (Z ?_)
  refine AF ?_
  replace h:=AB h; obtain⟨w,y,h⟩:=h
  refine AH (FZ _ _ 275 [] (Still.of rfl) (fun y0 q hq=>NH y0  q hq) _ y) (Z ?_)
  refine AF ?_
  refine AD h (fun h=>Z ?_) (fun h=>Z ?_)
  ·replace h:=AB h; obtain⟨g,j,h⟩:=h
   refine AH (QM _ _ j) (Z ?_)
   exact BS (Ap g (decide (((List.length a0.data:Nat):Int)=0)) _ h) [] []
  ·refine AD h (fun h=>Z ?_) (fun h=>Z ?_)
   ·replace h:=AB h; obtain⟨k,b,h⟩:=h
    refine AH (Js _ _ b) (Z ?_)
    exact BS (Ap k (decide (((List.length a0.data:Nat):Int)=0)) _ h) [] []
   ·refine AD h (fun h=>Z ?_) (fun h=>Z ?_)
    ·replace h:=AB h; obtain⟨d,c,h⟩:=h
     refine AH (Js _ _ c) (Z ?_)
     refine AD h (fun h=>Z ?_) (fun h=>Z ?_)
     ·refine AD h (fun h=>Z ?_) (fun h=>Z ?_)
      ·replace h:=AB h; obtain⟨e,i,h⟩:=h
       refine AL i rfl (Z ?_)
       replace h:=AB h; obtain⟨l,t,h⟩:=h
       refine AH (QM _ _ t) (Z ?_)
       refine AF ?_
       cases h
       simp only [go_sem]
      ·refine AF ?_
       cases h
       simp only [go_sem]
     ·refine AF ?_
      cases h
      simp only [go_sem]
    ·refine AD h (fun h=>Z ?_) (fun h=>Z ?_)
     ·refine AD h (fun h=>Z ?_) (fun h=>Z ?_)
      ·exact BS (Ap (decide (a0.value<4)) (decide (((List.length a0.data:Nat):Int)=0)) _ h) [] []
      ·exact BS (Ap false (decide (((List.length a0.data:Nat):Int)=0)) _ h) [] []
     ·refine AD h (fun h=>Z ?_) (fun h=>Z ?_)
      ·refine AD h (fun h=>Z ?_) (fun h=>Z ?_)
       ·refine AD h (fun h=>Z ?_) (fun h=>Z ?_)
        ·exact BS (Ap (decide (a0.value=0)) (!w) _ h) [] []
        ·exact BS (Ap (decide (a0.value=0)) false _ h) [] []
       ·exact BS (Ap (decide (a0.value=0)) false _ h) [] []
      ·refine AD h (fun h=>Z ?_) (fun h=>Z ?_)
       ·refine AD h (fun h=>Z ?_) (fun h=>Z ?_)
        ·exact BS (Ap (decide (a0.value=0)) (!w) _ h) [] []
        ·exact BS (Ap (decide (a0.value=0)) false _ h) [] []
       ·refine AD h (fun h=>Z ?_) (fun h=>Z ?_)
        ·replace h:=AB h; obtain⟨s,o,h⟩:=h
         refine AH (Jr _ _ o) (Z ?_)
         exact BS (Ap s (decide (((List.length a0.data:Nat):Int)=0)) _ h) [] []
        ·exact BS (Ap (decide (a0.value=0)) (decide (((List.length a0.data:Nat):Int)=0)) _ h) [] []
theorem Jq (a0 r) (h:E7 a0=some r):AC Tryz.prog 243 [.agg (Agent.avs a0)] (.bool r):=by
 unfold E7 at h
 refine acF Tryz.func243 mixed (h:=Z ?_)
 refine Aa [] .fin (by kernel_rfl) (Z ?_)
 refine AD h (fun h=>Z ?_) (fun h=>Z ?_)
 ·exact BS (Fi a0 true _ h) [] [(1000000500,1000)]
 ·replace h:=AB h; obtain⟨u,w,h⟩:=h
  refine AH (Qr _ _ _ w) (Z ?_)
  replace h:=AB h; obtain⟨y,q,h⟩:=h
  refine AH (SZ _ _ _ q) (Z ?_)
  refine AD h (fun h=>Z ?_) (fun h=>Z ?_)
  ·exact BS (Fi a0 true _ h) [] [(1000000500,1000)]
  ·replace h:=AB h; obtain⟨g,j,h⟩:=h
   refine AH (QL _ _ _ j) (Z ?_)
   exact BS (Fi a0 (!g) _ h) [] [(1000000500,1000)]
theorem MJ (n:Nat):(∀a0 u r,CD n a0 u=some r→Ax Tryz.prog Tryz.f190 [1,1,0,1,0] (.bool r) ⟨[(13,.ro (List.map Agent.ds a0)),(14,.int .i64 ((List.length a0:Nat):Int)),(15,.int .i64 u)],[],[]⟩)∧
    (∀a0 u w r,DM n a0 u w=some r→Ax Tryz.prog Tryz.f190 [1,1,0,1,0,0,1,1,0,0,1,1] (.bool r) ⟨[(13,.ro (List.map Agent.ds a0)),(14,.int .i64 ((List.length a0:Nat):Int)),(15,.int .i64 u),(30,.bool w)],[],[]⟩):=by
 induction n with
 |zero=>exact⟨(fun _ _ _ h=>by rw [CD] at h; cases h),(fun _ _ _ _ h=>by rw [DM] at h; cases h)⟩
 | succ n ih=>
  obtain⟨ih0,ih1⟩:=ih
  refine⟨?_,?_⟩
  ·intro a0 u r h
   rw [CD] at h
   refine AS rfl rfl (Z ?_)
   refine AY (Z ?_)
   refine AD h (fun h=>Z ?_) (fun h=>Z ?_)
   ·refine AF ?_
    replace h:=AB h; obtain⟨y,q,h⟩:=h
    refine AL q (Agent.ds_len _) (Z ?_)
    refine AF ?_
    replace h:=AB h; obtain⟨g,j,h⟩:=h
    refine AH (Jq _ _ j) (Z ?_)
    refine AD h (fun h=>Z ?_) (fun h=>Z ?_)
    ·exact BS (ih1 a0 u true _ h) [] []
    ·exact BS (ih1 a0 u (!((decide (y.kind=1)) == (decide (u=0)))) _ h) [] []
   ·refine AF ?_
    cases h
    simp only [go_sem]
  ·intro a0 u w r h
   rw [DM] at h
   refine AS rfl rfl (Z ?_)
   refine AD h (fun h=>Z ?_) (fun h=>Z ?_)
   ·cases h
    simp only [go_sem]
   ·refine AF ?_
    exact lpF (ih0 a0 (IntKind.i64.wrap (u+1)) _ h) [] []
theorem NI (n:Nat):(∀a0 u r,CD n a0 u=some r→Ax Tryz.prog Tryz.f190 [1,1,0,1,0] (.bool r) ⟨[(13,.ro (List.map Agent.ds a0)),(14,.int .i64 ((List.length a0:Nat):Int)),(15,.int .i64 u)],[],[]⟩):=(MJ n).1
theorem IP (a0:List Agent) (u:Bool) (r:Bool) (h:Ez a0 u=some r):Ax Tryz.prog Tryz.f190 [1,0,1] (.bool r) ⟨[(0,.ro (List.map Agent.ds a0)),(12,.bool u)],[],[]⟩:=by
 unfold Ez at h
 refine AS rfl rfl (Z ?_)
 refine AD h (fun h=>Z ?_) (fun h=>Z ?_)
 ·cases h
  simp only [go_sem]
 ·refine AF ?_
  exact loF (NI fuel a0 0 _ h) [] []
theorem QN (a0 r) (h:Gn a0=some r):AC Tryz.prog 190 [.ro (List.map Agent.ds a0)] (.bool r):=by
 unfold Gn at h
 refine acF Tryz.func190 mixed (h:=Z ?_)
 refine AD h (fun h=>Z ?_) (fun h=>Z ?_)
 ·exact BS (IP a0 true _ h) [] []
 ·exact BS (IP a0 (decide (600<((List.length a0:Nat):Int))) _ h) [] []
theorem G6 (n:Nat):(∀ (a0:List Port) (u:Int) (f1:(Port→Option Bool)) (g1:FuncId) (c1:List AV) (s1:Still c1) (h1:∀ (y0:Port) (q:Bool),f1 y0=some q→AC Tryz.prog g1 (fnA c1 [.agg (Port.avs y0)]) (.bool q)) (r:Int),As n a0 u f1=some r→Ax Tryz.prog Tryz.f244 [1,0,1,0] (.int .i64 r) ⟨[(0,.ro (List.map Port.ds a0)),(1,.fn g1 c1),(7,.int .i64 ((List.length a0:Nat):Int)),(8,.int .i64 u)],[],[]⟩):=by
 induction n with
 |zero=>exact((fun _ _ _ _ _ _ _ _ h=>by rw [As] at h; cases h))
 | succ n ih=>
  have ih0:=ih
  ·intro a0 u f1 g1 c1 s1 h1 r h
   rw [As] at h
   refine AS rfl rfl ?_
   try simp only [go_sem,s1.k,s1.r,s1.c,s1.p,s1.o,s1.f]
   refine AY ?_
   try simp only [go_sem,s1.k,s1.r,s1.c,s1.p,s1.o,s1.f]
   refine AD h (fun h=>?_) (fun h=>?_)
   ·try simp only [go_sem,s1.k,s1.r,s1.c,s1.p,s1.o,s1.f]
    refine Cg ?_
    try simp only [go_sem,s1.k,s1.r,s1.c,s1.p,s1.o,s1.f]
    replace h:=AB h; obtain⟨w,y,h⟩:=h
    refine AL y (Port.ds_len _) ?_
    try simp only [go_sem,s1.k,s1.r,s1.c,s1.p,s1.o,s1.f]
    replace h:=AB h; obtain⟨g,j,h⟩:=h
    refine AH (h1 _ _ j) ?_
    try simp only [go_sem,s1.k,s1.r,s1.c,s1.p,s1.o,s1.f]
    refine Cg ?_
    try simp only [go_sem,s1.k,s1.r,s1.c,s1.p,s1.o,s1.f]
    refine AD h (fun h=>?_) (fun h=>?_)
    ·try simp only [go_sem,s1.k,s1.r,s1.c,s1.p,s1.o,s1.f]
     cases h
     simp only [go_sem,s1.k,s1.r,s1.c,s1.p,s1.o,s1.f]
    ·try simp only [go_sem,s1.k,s1.r,s1.c,s1.p,s1.o,s1.f]
     refine Cg ?_
     try simp only [go_sem,s1.k,s1.r,s1.c,s1.p,s1.o,s1.f]
     refine P0 (B9 rfl rfl (ih0 a0 (IntKind.i64.wrap (u+1)) f1 g1 c1 s1 h1 _ h):) (.one ⟨_,.done _,[],[],?_⟩)
     try simp only [go_sem,s1.k,s1.r,s1.c,s1.p,s1.o,s1.f]
   ·try simp only [go_sem,s1.k,s1.r,s1.c,s1.p,s1.o,s1.f]
    refine Cg ?_
    try simp only [go_sem,s1.k,s1.r,s1.c,s1.p,s1.o,s1.f]
    cases h
    simp only [go_sem,s1.k,s1.r,s1.c,s1.p,s1.o,s1.f]
theorem ID (a0:List Port) (f1:(Port→Option Bool)) (g1:FuncId) (c1:List AV) (s1:Still c1) (h1:∀ (y0:Port) (q:Bool),f1 y0=some q→AC Tryz.prog g1 (fnA c1 [.agg (Port.avs y0)]) (.bool q)) (r:Int) (h:C8 a0 f1=some r):AC Tryz.prog 244 [.ro (List.map Port.ds a0),.fn g1 c1] (.int .i64 r):=by
 unfold C8 at h
 refine acF Tryz.func244 mixed (h:=?_)
 try simp only [go_sem,s1.k,s1.r,s1.c,s1.p,s1.o,s1.f]
 refine Cd (B9 rfl rfl (G6 fuel a0 0 f1 g1 c1 s1 h1 _ h):) (.one ⟨_,.done _,[],[],?_⟩)
 try simp only [go_sem,s1.k,s1.r,s1.c,s1.p,s1.o,s1.f]
theorem G7 (a0:List Port) (f1:(Port→Option Bool)) (g1:FuncId) (c1:List AV) (s1:Still c1) (h1:∀ (y0:Port) (q:Bool),f1 y0=some q→AC Tryz.prog g1 (fnA c1 [.agg (Port.avs y0)]) (.bool q)) (r:Bool) (h:BW a0 f1=some r):AC Tryz.prog 191 [.ro (List.map Port.ds a0),.fn g1 c1] (.bool r):=by
 unfold BW at h
 refine acF Tryz.func191 mixed (h:=?_)
 try simp only [go_sem,s1.k,s1.r,s1.c,s1.p,s1.o,s1.f]
 replace h:=AB h; obtain⟨u,w,h⟩:=h
 refine AH (ID _ _ g1 c1 s1 h1 _ w) ?_
 try simp only [go_sem,s1.k,s1.r,s1.c,s1.p,s1.o,s1.f]
 refine Cg ?_
 try simp only [go_sem,s1.k,s1.r,s1.c,s1.p,s1.o,s1.f]
 cases h
 simp only [go_sem,s1.k,s1.r,s1.c,s1.p,s1.o,s1.f]
theorem Ib (a0 a1 r) (h:EM a0 a1=some r):AC Tryz.prog 139 [.rop (Net.avs a0) 0,.agg (Port.avs a1)] (.agg (Port.rv r)):=by
 unfold EM at h
 refine acF Tryz.func139 mixed (h:=Z ?_)
 refine AF ?_
 refine Aa [false,false,false,false,false,false,false,false,false,false,false,false,false,true] (Tr.sq [13] .fin) (by kernel_rfl) (Z ?_)
 replace h:=AB h; obtain⟨u,w,h⟩:=h
 refine AL w (Agent.ds_len _) (Z ?_)
 replace h:=AB h; obtain⟨y,q,h⟩:=h
 refine AL q (Port.ds_len _) (Z ?_)
 refine AF ?_
 cases h
 simp only [go_sem]
theorem Sb (a0 a1 r) (h:Ip a0 a1=some r):AC Tryz.prog 193 [.ro (List.map Agent.ds a0),.agg (Port.avs a1)] (.bool r):=by
 unfold Ip at h
 refine acF Tryz.func193 mixed (h:=Z ?_)
 refine Aa [] .fin (by kernel_rfl) (Z ?_)
 refine AD h (fun h=>Z ?_) (fun h=>Z ?_)
 ·refine AD h (fun h=>Z ?_) (fun h=>Z ?_)
  ·refine AD h (fun h=>Z ?_) (fun h=>Z ?_)
   ·replace h:=AB h; obtain⟨u,w,h⟩:=h
    refine AL w (Agent.ds_len _) (Z ?_)
    refine AF ?_
    cases h
    simp only [go_sem]
   ·refine AF ?_
    cases h
    simp only [go_sem]
  ·refine AF ?_
   cases h
   simp only [go_sem]
 ·refine AF ?_
  cases h
  simp only [go_sem]
theorem Ow (a0 a1 r) (h:F9 a0 a1=some r):AC Tryz.prog 192 [.agg (Port.avs a0),.rop (Net.avs a1) 0] (.bool r):=by
 unfold F9 at h
 refine acF Tryz.func192 mixed (h:=Z ?_)
 replace h:=AB h; obtain⟨u,w,h⟩:=h
 refine AH (Ib _ _ _ w) (Z ?_)
 refine AF ?_
 refine Aa [] .fin (by kernel_rfl) (Z ?_)
 refine AD h (fun h=>Z ?_) (fun h=>Z ?_)
 ·refine AF ?_
  cases h
  simp only [go_sem]
 ·replace h:=AB h; obtain⟨y,q,h⟩:=h
  refine AH (Sb _ _ _ q) (Z ?_)
  refine AD h (fun h=>Z ?_) (fun h=>Z ?_)
  ·refine AF ?_
   cases h
   simp only [go_sem]
  ·replace h:=AB h; obtain⟨g,j,h⟩:=h
   refine AH (Ib _ _ _ j) (Z ?_)
   refine AF ?_
   cases h
   simp only [go_sem]
theorem Qq (a0 r) (h:Hv a0=some r):AC Tryz.prog 135 [.agg (Net.avs a0)] (.bool r):=by
 unfold Hv at h
 refine acF Tryz.func135 mixed (h:=Z ?_)
 replace h:=AB h; obtain⟨u,w,h⟩:=h
 refine AH (QN _ _ w) (Z ?_)
 refine AF ?_
 refine AD h (fun h=>Z ?_) (fun h=>Z ?_)
 ·cases h
  simp only [go_sem]
 ·refine AF ?_
  replace h:=AB h; obtain⟨y,g,h⟩:=h
  refine AH (Ke _ _ g) (Z ?_)
  replace h:=AB h; obtain⟨j,k,h⟩:=h
  refine AH (G7 _ _ 192 [.agg [],.rop [.ro (List.map Agent.ds a0.agents)] 0] (Still.of (by simp only [Dz,FG,Bool.and_true,Bool.true_and,Bool.and_self])) (fun y0 q hq=>Ow y0 _ q hq) _ k) (Z ?_)
  refine AF ?_
  cases h
  simp only [go_sem]
theorem BY (a0 a1 a2 r) (h:Cp a0 a1 a2=some r):AC Tryz.prog 55 [.int .i64 a0,.int .i64 a1,.int .i64 a2] (.bool r):=by
 unfold Cp at h
 refine acF Tryz.func55 mixed (h:=Z ?_)
 refine AD h (fun h=>Z ?_) (fun h=>Z ?_)
 ·refine AF ?_
  cases h
  simp only [go_sem]
 ·refine AF ?_
  cases h
  simp only [go_sem]
theorem Fc (u:Bool) (r:Int) (h:EQ u=some r):Ax Tryz.prog Tryz.f268 [1,1,1,0,1,0,1,1,1,1,1] (.int .i64 r) ⟨[(23,.bool u)],[],[]⟩:=by
 unfold EQ at h
 refine AS rfl rfl (Z ?_)
 refine AD h (fun h=>Z ?_) (fun h=>Z ?_)
 ·cases h
  simp only [go_sem]
 ·refine AF ?_
  cases h
  simp only [go_sem]
theorem G8 (a0:Int) (u:Bool) (r:Int) (h:FB a0 u=some r):Ax Tryz.prog Tryz.f268 [1,1,1,0,1,0,1,1,1] (.int .i64 r) ⟨[(13,.int .i64 a0),(19,.bool u)],[],[]⟩:=by
 unfold FB at h
 refine AS rfl rfl (Z ?_)
 refine AD h (fun h=>Z ?_) (fun h=>Z ?_)
 ·cases h
  simp only [go_sem]
 ·refine AD h (fun h=>Z ?_) (fun h=>Z ?_)
  ·exact BS (Fc (decide (a0=2)) _ h) [] []
  ·refine AD h (fun h=>Z ?_) (fun h=>Z ?_)
   ·exact BS (Fc (decide (a0=3)) _ h) [] []
   ·refine AD h (fun h=>Z ?_) (fun h=>Z ?_)
    ·exact BS (Fc (decide (a0=4)) _ h) [] []
    ·exact BS (Fc (decide (a0=7)) _ h) [] []
theorem Fd (a0:Int) (u:Bool) (r:Int) (h:ER a0 u=some r):Ax Tryz.prog Tryz.f268 [1,1,1,0,1,0,1] (.int .i64 r) ⟨[(13,.int .i64 a0),(14,.bool u)],[],[]⟩:=by
 unfold ER at h
 refine AS rfl rfl (Z ?_)
 refine AD h (fun h=>Z ?_) (fun h=>Z ?_)
 ·cases h
  simp only [go_sem]
 ·refine AD h (fun h=>Z ?_) (fun h=>Z ?_)
  ·exact BS (G8 a0 (decide (a0=8)) _ h) [] []
  ·refine AD h (fun h=>Z ?_) (fun h=>Z ?_)
   ·exact BS (G8 a0 (decide (a0=10)) _ h) [] []
   ·exact BS (G8 a0 (decide (a0=11)) _ h) [] []
theorem Sc (a0 a1 r) (h:HU a0 a1=some r):AC Tryz.prog 268 [.int .i64 a0,.int .i64 a1] (.int .i64 r):=by
 unfold HU at h
 refine acF Tryz.func268 mixed (h:=Z ?_)
 refine AD h (fun h=>Z ?_) (fun h=>Z ?_)
 ·replace h:=AB h; obtain⟨u,w,h⟩:=h
  refine AH (BY _ _ _ _ w) (Z ?_)
  refine AF ?_
  refine AD h (fun h=>Z ?_) (fun h=>Z ?_)
  ·cases h
   simp only [go_sem]
  ·refine AF ?_
   cases h
   simp only [go_sem]
 ·refine AF ?_
  refine AD h (fun h=>Z ?_) (fun h=>Z ?_)
  ·cases h
   simp only [go_sem]
  ·refine AF ?_
   refine AD h (fun h=>Z ?_) (fun h=>Z ?_)
   ·exact BS (Fd a0 (decide (a0=1)) _ h) [] []
   ·refine AD h (fun h=>Z ?_) (fun h=>Z ?_)
    ·exact BS (Fd a0 (decide (a0=5)) _ h) [] []
    ·refine AD h (fun h=>Z ?_) (fun h=>Z ?_)
     ·exact BS (Fd a0 (decide (a0=6)) _ h) [] []
     ·exact BS (Fd a0 (decide (a0=12)) _ h) [] []
theorem QO (a0 r) (h:Gp a0=some r):AC Tryz.prog 269 [.rop (Agent.avs a0) 0] (.int .i64 r):=by
 unfold Gp at h
 refine acF Tryz.func269 mixed (h:=Z ?_)
 refine AD h (fun h=>Z ?_) (fun h=>Z ?_)
 ·cases h
  simp only [go_sem]
 ·refine AF ?_
  cases h
  simp only [go_sem]
theorem BV (u:Bool) (r:Bool) (h:BE u=some r):Ax Tryz.prog Tryz.f289 [1,0,1,0,1] (.bool r) ⟨[(4,.bool u)],[],[]⟩:=by
 unfold BE at h
 refine AS rfl rfl (Z ?_)
 refine AD h (fun h=>Z ?_) (fun h=>Z ?_)
 ·cases h
  simp only [go_sem]
 ·refine AF ?_
  cases h
  simp only [go_sem]
theorem Qt (a0 r) (h:Hy a0=some r):AC Tryz.prog 289 [.int .i64 a0] (.bool r):=by
 unfold Hy at h
 refine acF Tryz.func289 mixed (h:=Z ?_)
 refine AD h (fun h=>Z ?_) (fun h=>Z ?_)
 ·exact BS (BV (decide (a0=2)) _ h) [] []
 ·refine AD h (fun h=>Z ?_) (fun h=>Z ?_)
  ·exact BS (BV (decide (a0=3)) _ h) [] []
  ·refine AD h (fun h=>Z ?_) (fun h=>Z ?_)
   ·exact BS (BV (decide (a0=4)) _ h) [] []
   ·refine AD h (fun h=>Z ?_) (fun h=>Z ?_)
    ·exact BS (BV (decide (a0=7)) _ h) [] []
    ·refine AD h (fun h=>Z ?_) (fun h=>Z ?_)
     ·exact BS (BV (decide (a0=8)) _ h) [] []
     ·refine AD h (fun h=>Z ?_) (fun h=>Z ?_)
      ·exact BS (BV (decide (a0=9)) _ h) [] []
      ·refine AD h (fun h=>Z ?_) (fun h=>Z ?_)
       ·exact BS (BV (decide (a0=10)) _ h) [] []
       ·refine AD h (fun h=>Z ?_) (fun h=>Z ?_)
        ·exact BS (BV (decide (a0=11)) _ h) [] []
        ·exact BS (BV (decide (a0=12)) _ h) [] []
theorem Sd (a0 r) (h:Iq a0=some r):AC Tryz.prog 290 [.int .i64 a0] (.bool r):=by
 unfold Iq at h
 refine acF Tryz.func290 mixed (h:=Z ?_)
 replace h:=AB h; obtain⟨u,w,h⟩:=h
 refine AH (BY _ _ _ _ w) (Z ?_)
 refine AF ?_
 cases h
 simp only [go_sem]
theorem Qu (a0 a1 r) (h:GS a0 a1=some r):AC Tryz.prog 270 [.int .i64 a0,.int .i64 a1] (.bool r):=by
 unfold GS at h
 refine acF Tryz.func270 mixed (h:=Z ?_)
 replace h:=AB h; obtain⟨u,w,h⟩:=h
 refine AH (Qt _ _ w) (Z ?_)
 refine AF ?_
 refine AD h (fun h=>Z ?_) (fun h=>Z ?_)
 ·replace h:=AB h; obtain⟨y,q,h⟩:=h
  refine AH (BY _ _ _ _ q) (Z ?_)
  refine AF ?_
  cases h
  simp only [go_sem]
 ·refine AF ?_
  replace h:=AB h; obtain⟨g,j,h⟩:=h
  refine AH (Sd _ _ j) (Z ?_)
  refine AD h (fun h=>Z ?_) (fun h=>Z ?_)
  ·refine AF ?_
   cases h
   simp only [go_sem]
  ·refine AF ?_
   cases h
   simp only [go_sem]
theorem OX (a0 r) (h:Hz a0=some r):AC Tryz.prog 291 [.int .i64 a0] (.bool r):=by
 unfold Hz at h
 refine acF Tryz.func291 mixed (h:=Z ?_)
 replace h:=AB h; obtain⟨u,w,h⟩:=h
 refine AH (BY _ _ _ _ w) (Z ?_)
 refine AF ?_
 cases h
 simp only [go_sem]
theorem MK (n:Nat):(∀a0 u r,CO n a0 u=some r→Ax Tryz.prog Tryz.f271 [1,0,1,0,1,1,1,1,1,1,1,1,1,1,1,0,1,0,1,0] (.bool r) ⟨[(0,.rop [.int .i64 a0.kind,.int .i64 a0.level,.int .i64 a0.value,.ro (List.map AJ a0.data),.ro (List.map Port.ds a0.ports)] 0),(3,.int .i64 u)],[],[]⟩):=by
 induction n with
 |zero=>exact((fun _ _ _ h=>by rw [CO] at h; cases h))
 | succ n ih=>
  have ih0:=ih
  ·intro a0 u r h
   rw [CO] at h
   refine AS rfl rfl (Z ?_)
   refine AY (Z ?_)
   refine AD h (fun h=>Z ?_) (fun h=>Z ?_)
   ·refine AF ?_
    replace h:=AB h; obtain⟨w,y,h⟩:=h
    refine AL y rfl (Z ?_)
    replace h:=AB h; obtain⟨q,g,h⟩:=h
    refine AH (OX _ _ g) (Z ?_)
    refine AF ?_
    refine AD h (fun h=>Z ?_) (fun h=>Z ?_)
    ·cases h
     simp only [go_sem]
    ·refine AF ?_
     exact lpF (ih0 a0 (IntKind.i64.wrap (u+1)) _ h) [] []
   ·refine AF ?_
    cases h
    simp only [go_sem]
theorem Cb (a0:Agent) (u:Bool) (r:Bool) (h:Bq a0 u=some r):Ax Tryz.prog Tryz.f271 [1,0,1,0,1,1,1,1,1,1,1,1,1,1,1,0,0,1] (.bool r) ⟨[(0,.rop [.int .i64 a0.kind,.int .i64 a0.level,.int .i64 a0.value,.ro (List.map AJ a0.data),.ro (List.map Port.ds a0.ports)] 0),(130,.bool u)],[],[]⟩:=by
 unfold Bq at h
 refine AS rfl rfl (Z ?_)
 refine AD h (fun h=>Z ?_) (fun h=>Z ?_)
 ·cases h
  simp only [go_sem]
 ·refine AF ?_
  exact loF (MK fuel a0 0 _ h) [] []
theorem H8 (a0:Agent) (u:Bool) (r:Bool) (h:EY a0 u=some r):Ax Tryz.prog Tryz.f271 [1,0,1,0,1,1,1,1,1,1,1,1,1,1,1] (.bool r) ⟨[(0,.rop [.int .i64 a0.kind,.int .i64 a0.level,.int .i64 a0.value,.ro (List.map AJ a0.data),.ro (List.map Port.ds a0.ports)] 0),(92,.bool u)],[],[]⟩:=by
 unfold EY at h
 refine AS rfl rfl (Z ?_)
 refine AD h (fun h=>Z ?_) (fun h=>Z ?_)
 ·refine AD h (fun h=>Z ?_) (fun h=>Z ?_)
  ·exact BS (Cb a0 true _ h) [] []
  ·refine AD h (fun h=>Z ?_) (fun h=>Z ?_)
   ·refine AD h (fun h=>Z ?_) (fun h=>Z ?_)
    ·exact BS (Cb a0 true _ h) [] []
    ·refine AD h (fun h=>Z ?_) (fun h=>Z ?_)
     ·replace h:=AB h; obtain⟨w,y,h⟩:=h
      refine AH (BY _ _ _ _ y) (Z ?_)
      exact BS (Cb a0 (!w) _ h) [] []
     ·exact BS (Cb a0 false _ h) [] []
   ·refine AD h (fun h=>Z ?_) (fun h=>Z ?_)
    ·replace h:=AB h; obtain⟨w,y,h⟩:=h
     refine AH (BY _ _ _ _ y) (Z ?_)
     exact BS (Cb a0 (!w) _ h) [] []
    ·exact BS (Cb a0 false _ h) [] []
 ·refine AF ?_
  refine AD h (fun h=>Z ?_) (fun h=>Z ?_)
  ·refine AF ?_
   cases h
   simp only [go_sem]
  ·refine AF ?_
   cases h
   simp only [go_sem]
theorem Ox (a0 r) (h:GA a0=some r):AC Tryz.prog 271 [.rop (Agent.avs a0) 0] (.bool r):=by
 unfold GA at h
 refine acF Tryz.func271 mixed (h:=Z ?_)
 refine AD h (fun h=>Z ?_) (fun h=>Z ?_)
 ·refine AD h (fun h=>Z ?_) (fun h=>Z ?_)
  ·replace h:=AB h; obtain⟨u,w,h⟩:=h
   refine AH (BY _ _ _ _ w) (Z ?_)
   refine AF ?_
   cases h
   simp only [go_sem]
  ·refine AF ?_
   cases h
   simp only [go_sem]
 ·refine AD h (fun h=>Z ?_) (fun h=>Z ?_)
  ·refine AD h (fun h=>Z ?_) (fun h=>Z ?_)
   ·replace h:=AB h; obtain⟨y,q,h⟩:=h
    refine AH (BY _ _ _ _ q) (Z ?_)
    refine AF ?_
    cases h
    simp only [go_sem]
   ·refine AF ?_
    cases h
    simp only [go_sem]
  ·refine AD h (fun h=>Z ?_) (fun h=>Z ?_)
   ·refine AD h (fun h=>Z ?_) (fun h=>Z ?_)
    ·replace h:=AB h; obtain⟨g,j,h⟩:=h
     refine AH (BY _ _ _ _ j) (Z ?_)
     refine AD h (fun h=>Z ?_) (fun h=>Z ?_)
     ·replace h:=AB h; obtain⟨k,b,h⟩:=h
      refine AL b rfl (Z ?_)
      replace h:=AB h; obtain⟨d,c,h⟩:=h
      refine AH (BY _ _ _ _ c) (Z ?_)
      refine AF ?_
      cases h
      simp only [go_sem]
     ·refine AF ?_
      cases h
      simp only [go_sem]
    ·refine AF ?_
     cases h
     simp only [go_sem]
   ·refine AD h (fun h=>Z ?_) (fun h=>Z ?_)
    ·refine AD h (fun h=>Z ?_) (fun h=>Z ?_)
     ·replace h:=AB h; obtain⟨e,i,h⟩:=h
      refine AH (BY _ _ _ _ i) (Z ?_)
      refine AF ?_
      cases h
      simp only [go_sem]
     ·refine AF ?_
      cases h
      simp only [go_sem]
    ·refine AD h (fun h=>Z ?_) (fun h=>Z ?_)
     ·refine AD h (fun h=>Z ?_) (fun h=>Z ?_)
      ·replace h:=AB h; obtain⟨l,t,h⟩:=h
       refine AH (OX _ _ t) (Z ?_)
       refine AF ?_
       cases h
       simp only [go_sem]
      ·refine AF ?_
       cases h
       simp only [go_sem]
     ·refine AD h (fun h=>Z ?_) (fun h=>Z ?_)
      ·exact BS (H8 a0 (decide (a0.kind=10)) _ h) [] []
      ·exact BS (H8 a0 (decide (a0.kind=11)) _ h) [] []
theorem Qv (a0 r) (h:H0 a0=some r):AC Tryz.prog 241 [.rop (Agent.avs a0) 0] (.bool r):=by
 unfold H0 at h
 refine acF Tryz.func241 mixed (h:=Z ?_)
 refine Aa [] .fin (by kernel_rfl) (Z ?_)
 replace h:=AB h; obtain⟨u,w,h⟩:=h
 refine AH (QO _ _ w) (Z ?_)
 replace h:=AB h; obtain⟨y,q,h⟩:=h
 refine AH (Sc _ _ _ q) (Z ?_)
 refine AF ?_
 refine Aa [] .fin (by kernel_rfl) (Z ?_)
 refine AD h (fun h=>Z ?_) (fun h=>Z ?_)
 ·refine AD h (fun h=>Z ?_) (fun h=>Z ?_)
  ·replace h:=AB h; obtain⟨g,j,h⟩:=h
   refine AH (Qu _ _ _ j) (Z ?_)
   refine AD h (fun h=>Z ?_) (fun h=>Z ?_)
   ·replace h:=AB h; obtain⟨k,b,h⟩:=h
    refine AH (Ox _ _ b) (Z ?_)
    refine AF ?_
    cases h
    simp only [go_sem]
   ·refine AF ?_
    cases h
    simp only [go_sem]
  ·refine AF ?_
   cases h
   simp only [go_sem]
 ·refine AF ?_
  cases h
  simp only [go_sem]
theorem ML (n:Nat):(∀a0 u r,CE n a0 u=some r→Ax Tryz.prog Tryz.f185 [1,1,0,1,0] (.bool r) ⟨[(0,.ro (List.map Agent.ds a0)),(3,.int .i64 u)],[],[]⟩)∧
    (∀a0 u w r,DN n a0 u w=some r→Ax Tryz.prog Tryz.f185 [1,1,0,1,0,0,1,0,0,1] (.bool r) ⟨[(0,.ro (List.map Agent.ds a0)),(3,.int .i64 u),(29,.bool w)],[],[]⟩):=by
 induction n with
 |zero=>exact⟨(fun _ _ _ h=>by rw [CE] at h; cases h),(fun _ _ _ _ h=>by rw [DN] at h; cases h)⟩
 | succ n ih=>
  obtain⟨ih0,ih1⟩:=ih
  refine⟨?_,?_⟩
  ·intro a0 u r h
   rw [CE] at h
   refine AS rfl rfl (Z ?_)
   refine AY (Z ?_)
   refine AD h (fun h=>Z ?_) (fun h=>Z ?_)
   ·refine AF ?_
    replace h:=AB h; obtain⟨y,q,h⟩:=h
    refine AL q (Agent.ds_len _) (Z ?_)
    replace h:=AB h; obtain⟨g,j,h⟩:=h
    refine AH (Qv _ _ j) (Z ?_)
    refine AD h (fun h=>Z ?_) (fun h=>Z ?_)
    ·exact BS (ih1 a0 u true _ h) [] []
    ·replace h:=AB h; obtain⟨k,b,h⟩:=h
     refine AL b (Agent.ds_len _) (Z ?_)
     exact BS (ih1 a0 u (!((decide (k.kind=1)) == (decide (u=0)))) _ h) [] []
   ·refine AF ?_
    cases h
    simp only [go_sem]
  ·intro a0 u w r h
   rw [DN] at h
   refine AS rfl rfl (Z ?_)
   refine AD h (fun h=>Z ?_) (fun h=>Z ?_)
   ·cases h
    simp only [go_sem]
   ·refine AF ?_
    exact lpF (ih0 a0 (IntKind.i64.wrap (u+1)) _ h) [] []
theorem NJ (n:Nat):(∀a0 u r,CE n a0 u=some r→Ax Tryz.prog Tryz.f185 [1,1,0,1,0] (.bool r) ⟨[(0,.ro (List.map Agent.ds a0)),(3,.int .i64 u)],[],[]⟩):=(ML n).1
theorem QP (a0 r) (h:Gq a0=some r):AC Tryz.prog 185 [.ro (List.map Agent.ds a0)] (.bool r):=by
 unfold Gq at h
 refine acF Tryz.func185 mixed (h:=Z ?_)
 replace h:=AB h; obtain⟨u,w,h⟩:=h
 refine AH (BY _ _ _ _ w) (Z ?_)
 refine AF ?_
 refine AD h (fun h=>Z ?_) (fun h=>Z ?_)
 ·cases h
  simp only [go_sem]
 ·refine AF ?_
  exact loF (NJ fuel a0 0 _ h) [] []
theorem Se (a0 a1 r) (h:Ir a0 a1=some r):AC Tryz.prog 186 [.ro (List.map Agent.ds a0),.agg (Port.avs a1)] (.bool r):=by
 unfold Ir at h
 refine acF Tryz.func186 mixed (h:=Z ?_)
 refine Aa [] .fin (by kernel_rfl) (Z ?_)
 replace h:=AB h; obtain⟨u,w,h⟩:=h
 refine AH (BY _ _ _ _ w) (Z ?_)
 refine AD h (fun h=>Z ?_) (fun h=>Z ?_)
 ·replace h:=AB h; obtain⟨y,q,h⟩:=h
  refine AL q (Agent.ds_len _) (Z ?_)
  replace h:=AB h; obtain⟨g,j,h⟩:=h
  refine AH (BY _ _ _ _ j) (Z ?_)
  refine AF ?_
  cases h
  simp only [go_sem]
 ·refine AF ?_
  cases h
  simp only [go_sem]
theorem QQ (n:Nat):(∀a0 u r,Dp n a0 u=some r→Ax Tryz.prog Tryz.f130 [1,1,0,1,0] (.bool r) ⟨[(0,.rop [.ro (List.map Agent.ds a0.agents)] 0),(3,.int .i64 u)],[],[]⟩)∧
    (∀a0 u w y r,EI n a0 u w y=some r→Ax Tryz.prog Tryz.f130 [1,1,0,1,0,0,1,0,0,1,1,0] (.bool r) ⟨[(0,.rop [.ro (List.map Agent.ds a0.agents)] 0),(3,.int .i64 u),(4,.rop [.int .i64 w.kind,.int .i64 w.level,.int .i64 w.value,.ro (List.map AJ w.data),.ro (List.map Port.ds w.ports)] 0),(5,.int .i64 y)],[],[]⟩)∧
    (∀a0 u y w q r,EJ n a0 u y w q=some r→Ax Tryz.prog Tryz.f130 [1,1,0,1,0,0,1,0,0,1,1,0,0,1,0,0,1,1,1] (.bool r) ⟨[(0,.rop [.ro (List.map Agent.ds a0.agents)] 0),(3,.int .i64 u),(4,.rop [.int .i64 w.kind,.int .i64 w.level,.int .i64 w.value,.ro (List.map AJ w.data),.ro (List.map Port.ds w.ports)] 0),(5,.int .i64 y),(76,.bool q)],[],[]⟩):=by
 induction n with
 |zero=>exact⟨(fun _ _ _ h=>by rw [Dp] at h; cases h),(fun _ _ _ _ _ h=>by rw [EI] at h; cases h),(fun _ _ _ _ _ _ h=>by rw [EJ] at h; cases h)⟩
 | succ n ih=>
  obtain⟨ih0,ih1,ih2⟩:=ih
  refine⟨?_,?_,?_⟩
  ·intro a0 u r h
   rw [Dp] at h
   refine AS rfl rfl (Z ?_)
   refine AY (Z ?_)
   refine AD h (fun h=>Z ?_) (fun h=>Z ?_)
   ·refine AF ?_
    replace h:=AB h; obtain⟨w,g,h⟩:=h
    refine AL g (Agent.ds_len _) (Z ?_)
    exact loF (ih1 a0 u w 0 _ h) [] []
   ·refine AF ?_
    cases h
    simp only [go_sem]
  ·intro a0 u w y r h
   rw [EI] at h
   refine AS rfl rfl (Z ?_)
   refine AY (Z ?_)
   refine AD h (fun h=>Z ?_) (fun h=>Z ?_)
   ·refine AF ?_
    refine AF ?_
    replace h:=AB h; obtain⟨j,k,h⟩:=h
    refine AL k (Port.ds_len _) (Z ?_)
    refine AF ?_
    refine Aa [] .fin (by kernel_rfl) (Z ?_)
    refine AD h (fun h=>Z ?_) (fun h=>Z ?_)
    ·exact BS (ih2 a0 u y w true _ h) [] []
    ·replace h:=AB h; obtain⟨b,d,h⟩:=h
     refine AH (Se _ _ _ d) (Z ?_)
     refine AD h (fun h=>Z ?_) (fun h=>Z ?_)
     ·exact BS (ih2 a0 u y w true _ h) [] []
     ·replace h:=AB h; obtain⟨c,e,h⟩:=h
      refine AL e (Agent.ds_len _) (Z ?_)
      replace h:=AB h; obtain⟨i,l,h⟩:=h
      refine AL l (Port.ds_len _) (Z ?_)
      exact BS (ih2 a0 u y w (!(decide (i.agent=u)&&decide (i.slot=y))) _ h) [] []
   ·refine AF ?_
    exact lpF (ih0 a0 (IntKind.i64.wrap (u+1)) _ h) [] []
  ·intro a0 u y w q r h
   rw [EJ] at h
   refine AS rfl rfl (Z ?_)
   refine AD h (fun h=>Z ?_) (fun h=>Z ?_)
   ·cases h
    simp only [go_sem]
   ·refine AF ?_
    exact lpF (ih1 a0 u w (IntKind.i64.wrap (y+1)) _ h) [] []
theorem Qw (n:Nat):(∀a0 u r,Dp n a0 u=some r→Ax Tryz.prog Tryz.f130 [1,1,0,1,0] (.bool r) ⟨[(0,.rop [.ro (List.map Agent.ds a0.agents)] 0),(3,.int .i64 u)],[],[]⟩):=(QQ n).1
theorem VN (a0 r) (h:M2 a0=some r):AC Tryz.prog 130 [.rop (Net.avs a0) 0] (.bool r):=by
 unfold M2 at h
 refine acF Tryz.func130 mixed (h:=Z ?_)
 replace h:=AB h; obtain⟨u,w,h⟩:=h
 refine AH (QP _ _ w) (Z ?_)
 refine AF ?_
 refine AD h (fun h=>Z ?_) (fun h=>Z ?_)
 ·cases h
  simp only [go_sem]
 ·refine AF ?_
  exact loF (Qw fuel a0 0 _ h) [] []
theorem Sf (a0 a1 r) (h:Is a0 a1=some r):AC Tryz.prog 129 [.ro (List.map Port.ds a0),.int .i64 a1] (.int .i64 r):=by
 unfold Is at h
 refine acF Tryz.func129 mixed (h:=Z ?_)
 refine AD h (fun h=>Z ?_) (fun h=>Z ?_)
 ·cases h
  simp only [go_sem]
 ·refine AF ?_
  cases h
  simp only [go_sem]
theorem Sg (a0 a1 r) (h:HV a0 a1=some r):AC Tryz.prog 68 [.agg (Agent.avs a0),.int .i64 a1] (.int .i64 r):=by
 unfold HV at h
 refine acF Tryz.func68 mixed (h:=Z ?_)
 replace h:=AB h; obtain⟨u,w,h⟩:=h
 refine AH (Qi _ _ _ w) (Z ?_)
 refine AF ?_
 refine AD h (fun h=>Z ?_) (fun h=>Z ?_)
 ·cases h
  simp only [go_sem]
 ·refine AF ?_
  replace h:=AB h; obtain⟨y,q,h⟩:=h
  refine AH (Sf _ _ _ q) (Z ?_)
  refine AF ?_
  refine AD h (fun h=>Z ?_) (fun h=>Z ?_)
  ·cases h
   simp only [go_sem]
  ·refine AF ?_
   cases h
   simp only [go_sem]
theorem N4 (n:Nat):(∀a0 u w r,Dq n a0 u w=some r→Ax Tryz.prog Tryz.f29 [1,1,1,0,1,0] (.int .i64 r) ⟨[(0,.ro (List.map Agent.ds a0)),(1,.int .i64 u),(5,.int .i64 w)],[],[]⟩):=by
 induction n with
 |zero=>exact((fun _ _ _ _ h=>by rw [Dq] at h; cases h))
 | succ n ih=>
  have ih0:=ih
  ·intro a0 u w r h
   rw [Dq] at h
   refine AS rfl rfl (Z ?_)
   refine AY (Z ?_)
   refine AD h (fun h=>Z ?_) (fun h=>Z ?_)
   ·refine AF ?_
    replace h:=AB h; obtain⟨y,q,h⟩:=h
    refine AL q (Agent.ds_len _) (Z ?_)
    replace h:=AB h; obtain⟨g,j,h⟩:=h
    refine AH (Sg _ _ _ j) (Z ?_)
    refine AF ?_
    refine AD h (fun h=>Z ?_) (fun h=>Z ?_)
    ·cases h
     simp only [go_sem]
    ·refine AF ?_
     exact lpF (ih0 a0 g (IntKind.i64.wrap (w+1)) _ h) [] []
   ·refine AF ?_
    cases h
    simp only [go_sem]
theorem Qx (a0 a1 r) (h:H1 a0 a1=some r):AC Tryz.prog 29 [.ro (List.map Agent.ds a0),.int .i64 a1] (.int .i64 r):=by
 unfold H1 at h
 refine acF Tryz.func29 mixed (h:=Z ?_)
 refine AD h (fun h=>Z ?_) (fun h=>Z ?_)
 ·cases h
  simp only [go_sem]
 ·refine AF ?_
  exact loF (N4 fuel a0 (IntKind.i64.wrap (a1 - ((List.length a0:Nat):Int))) 0 _ h) [] []
theorem VM (a0 a1 r) (h:M1 a0 a1=some r):AC Tryz.prog 6 [.agg (Net.avs a0),.int .i64 a1] (.int .i64 r):=by
 unfold M1 at h
 refine acF Tryz.func6 mixed (h:=Z ?_)
 replace h:=AB h; obtain⟨u,w,h⟩:=h
 refine AH (Qx _ _ _ w) (Z ?_)
 refine AF ?_
 refine AD h (fun h=>Z ?_) (fun h=>Z ?_)
 ·cases h
  simp only [go_sem]
 ·refine AF ?_
  cases h
  simp only [go_sem]
theorem UH (a0 r) (h:It a0=some r):AC Tryz.prog 189 [.agg (Port.avs a0)] (.agg (Port.rv r)):=by
 unfold It at h
 refine acF Tryz.func189 mixed (h:=Z ?_)
 refine AF ?_
 refine AF ?_
 cases h
 simp only [go_sem]
theorem Oy (n:Nat):(∀a0 u w r,ES n a0 u w=some r→Ax Tryz.prog Tryz.f134 [1,1,0,1,0] (.ow (some 2) (List.map Port.ds r)) ⟨[(0,.ro (List.map Port.ds a0)),(3,.own 1000001000),(4,.int .i64 w)],[(1000001000,some ⟨List.map Port.ds u,some 2,0,.no⟩)],[]⟩):=by
 induction n with
 |zero=>exact((fun _ _ _ _ h=>by rw [ES] at h; cases h))
 | succ n ih=>
  have ih0:=ih
  ·intro a0 u w r h
   rw [ES] at h
   refine AS rfl rfl (Z ?_)
   refine AY (Z ?_)
   refine AD h (fun h=>Z ?_) (fun h=>Z ?_)
   ·refine AF ?_
    replace h:=AB h; obtain⟨y,q,h⟩:=h
    refine AL q (Port.ds_len _) (Z ?_)
    replace h:=AB h; obtain⟨g,j,h⟩:=h
    refine AH (UH _ _ j) (Z ?_)
    replace h:=AB h; obtain⟨k,b,h⟩:=h
    refine AL b (Port.ds_len _) (Z ?_)
    replace h:=AB h; obtain⟨d,c,h⟩:=h
    refine AW (AM b) (Z ?_)
    refine AT (List.map Port.ds d) (by rw [← AN c]; simp only [List.map_set,go_sem,Port.ds_eq]) (Z ?_)
    refine AF ?_
    exact lpF (ih0 a0 d (IntKind.i64.wrap (w+1)) _ h) [(1000001000,1000001000)] []
   ·refine AF ?_
    cases h
    simp only [go_sem]
theorem Sh (a0 r) (h:Iu a0=some r):AC Tryz.prog 134 [.ro (List.map Port.ds a0)] (.ow (some 2) (List.map Port.ds r)):=by
 unfold Iu at h
 refine acF Tryz.func134 mixed (h:=Z ?_)
 replace h:=AB h; obtain⟨u,w,h⟩:=h
 have hq_:=CS w
 obtain⟨hv2002a,hv2002b,hv2002c⟩:=hq_
 refine Ad (by refine⟨?_,?_,?_⟩ <;> omega) (Z ?_)
 refine BN .no (Z ?_)
 refine AT (List.map Port.ds u) (by rw [← hv2002c]; simp only [List.map_replicate,go_sem,Port.ds_eq]) (Z ?_)
 refine AF ?_
 exact loF (Oy fuel a0 u 0 _ h) [(1000001000,32032)] []
theorem Si (a0 r) (h:HW a0=some r):AC Tryz.prog 75 [.agg (Agent.avs a0)] (.agg (Agent.rv r)):=by
 unfold HW at h
 refine acF Tryz.func75 mixed (h:=Z ?_)
 refine AF ?_
 refine AF ?_
 replace h:=AB h; obtain⟨u,w,h⟩:=h
 refine AH (FX _ _ w) (Z ?_)
 refine AF ?_
 replace h:=AB h; obtain⟨y,q,h⟩:=h
 refine AH (Sh _ _ q) (Z ?_)
 refine AF ?_
 cases h
 simp only [go_sem]
theorem N5 (n:Nat):(∀a0 u w r,Dr n a0 u w=some r→Ax Tryz.prog Tryz.f32 [1,1,0,1,0] (.ow (some 5) (List.map Agent.ds r)) ⟨[(0,.ro (List.map Agent.ds a0)),(3,.own 1000001000),(4,.int .i64 w)],[(1000001000,some ⟨List.map Agent.ds u,some 5,0,.no⟩)],[]⟩):=by
 induction n with
 |zero=>exact((fun _ _ _ _ h=>by rw [Dr] at h; cases h))
 | succ n ih=>
  have ih0:=ih
  ·intro a0 u w r h
   rw [Dr] at h
   refine AS rfl rfl (Z ?_)
   refine AY (Z ?_)
   refine AD h (fun h=>Z ?_) (fun h=>Z ?_)
   ·refine AF ?_
    replace h:=AB h; obtain⟨y,q,h⟩:=h
    refine AL q (Agent.ds_len _) (Z ?_)
    replace h:=AB h; obtain⟨g,j,h⟩:=h
    refine AH (Si _ _ j) (Z ?_)
    replace h:=AB h; obtain⟨k,b,h⟩:=h
    refine AL b (Agent.ds_len _) (Z ?_)
    replace h:=AB h; obtain⟨d,c,h⟩:=h
    refine AW (AM b) (Z ?_)
    refine AT (List.map Agent.ds d) (by rw [← AN c]; simp only [List.map_set,go_sem,Agent.ds_eq]) (Z ?_)
    refine AF ?_
    exact lpF (ih0 a0 d (IntKind.i64.wrap (w+1)) _ h) [(1000001000,1000001000)] []
   ·refine AF ?_
    cases h
    simp only [go_sem]
theorem Qy (a0 r) (h:H2 a0=some r):AC Tryz.prog 32 [.ro (List.map Agent.ds a0)] (.ow (some 5) (List.map Agent.ds r)):=by
 unfold H2 at h
 refine acF Tryz.func32 mixed (h:=Z ?_)
 replace h:=AB h; obtain⟨u,w,h⟩:=h
 have hq_:=CS w
 obtain⟨hv2002a,hv2002b,hv2002c⟩:=hq_
 refine Ad (by refine⟨?_,?_,?_⟩ <;> omega) (Z ?_)
 refine BN .no (Z ?_)
 refine AT (List.map Agent.ds u) (by rw [← hv2002c]; simp only [List.map_replicate,go_sem,Agent.ds_eq]) (Z ?_)
 refine AF ?_
 exact loF (N5 fuel a0 u 0 _ h) [(1000001000,32032)] []
theorem Jg (a0 r) (h:HD a0=some r):AC Tryz.prog 8 [.agg (Net.avs a0)] (.agg (Net.rv r)):=by
 unfold HD at h
 refine acF Tryz.func8 mixed (h:=Z ?_)
 refine AF ?_
 refine AF ?_
 replace h:=AB h; obtain⟨u,w,h⟩:=h
 refine AH (Qy _ _ w) (Z ?_)
 refine AF ?_
 cases h
 simp only [go_sem]
theorem UI (a0 a1 r) (h:Iv a0 a1=some r):AC Tryz.prog 210 [.agg (Port.avs a0),.agg (Port.avs a1)] (.bool r):=by
 unfold Iv at h
 refine acF Tryz.func210 mixed (h:=Z ?_)
 refine AD h (fun h=>Z ?_) (fun h=>Z ?_)
 ·cases h
  simp only [go_sem]
 ·refine AF ?_
  refine AD h (fun h=>Z ?_) (fun h=>Z ?_)
  ·cases h
   simp only [go_sem]
  ·refine AF ?_
   cases h
   simp only [go_sem]
theorem Oz (n:Nat):(∀a0 a1 u r,ET n a0 a1 u=some r→Ax Tryz.prog Tryz.f150 [1,1,0,1,0] (.bool r) ⟨[(0,.ro (List.map Port.ds a0)),(1,.ro (List.map Port.ds a1)),(5,.int .i64 u)],[],[]⟩):=by
 induction n with
 |zero=>exact((fun _ _ _ _ h=>by rw [ET] at h; cases h))
 | succ n ih=>
  have ih0:=ih
  ·intro a0 a1 u r h
   rw [ET] at h
   refine AS rfl rfl (Z ?_)
   refine AY (Z ?_)
   refine AD h (fun h=>Z ?_) (fun h=>Z ?_)
   ·refine AF ?_
    refine Aa [] .fin (by kernel_rfl) (Z ?_)
    replace h:=AB h; obtain⟨w,y,h⟩:=h
    refine AL y (Port.ds_len _) (Z ?_)
    replace h:=AB h; obtain⟨q,g,h⟩:=h
    refine AL g (Port.ds_len _) (Z ?_)
    replace h:=AB h; obtain⟨j,k,h⟩:=h
    refine AH (UI _ _ _ k) (Z ?_)
    refine AF ?_
    refine AD h (fun h=>Z ?_) (fun h=>Z ?_)
    ·cases h
     simp only [go_sem]
    ·refine AF ?_
     exact lpF (ih0 a0 a1 (IntKind.i64.wrap (u+1)) _ h) [] []
   ·refine AF ?_
    cases h
    simp only [go_sem]
theorem Sj (a0 a1 r) (h:Iw a0 a1=some r):AC Tryz.prog 150 [.ro (List.map Port.ds a0),.ro (List.map Port.ds a1)] (.bool r):=by
 unfold Iw at h
 refine acF Tryz.func150 mixed (h:=Z ?_)
 refine AD h (fun h=>Z ?_) (fun h=>Z ?_)
 ·cases h
  simp only [go_sem]
 ·refine AF ?_
  exact loF (Oz fuel a0 a1 0 _ h) [] []
theorem Sk (a0 a1 r) (h:HX a0 a1=some r):AC Tryz.prog 85 [.agg (Agent.avs a0),.agg (Agent.avs a1)] (.bool r):=by
 unfold HX at h
 refine acF Tryz.func85 mixed (h:=Z ?_)
 refine AD h (fun h=>Z ?_) (fun h=>Z ?_)
 ·cases h
  simp only [go_sem]
 ·refine AF ?_
  refine AD h (fun h=>Z ?_) (fun h=>Z ?_)
  ·cases h
   simp only [go_sem]
  ·refine AF ?_
   refine AD h (fun h=>Z ?_) (fun h=>Z ?_)
   ·cases h
    simp only [go_sem]
   ·refine AF ?_
    replace h:=AB h; obtain⟨u,w,h⟩:=h
    refine AH (Ej _ _ _ w) (Z ?_)
    refine AF ?_
    refine AD h (fun h=>Z ?_) (fun h=>Z ?_)
    ·cases h
     simp only [go_sem]
    ·refine AF ?_
     replace h:=AB h; obtain⟨y,q,h⟩:=h
     refine AH (Sj _ _ _ q) (Z ?_)
     refine AF ?_
     refine AD h (fun h=>Z ?_) (fun h=>Z ?_)
     ·cases h
      simp only [go_sem]
     ·refine AF ?_
      cases h
      simp only [go_sem]
theorem N6 (n:Nat):(∀a0 a1 u r,Ds n a0 a1 u=some r→Ax Tryz.prog Tryz.f37 [1,1,0,1,0] (.bool r) ⟨[(0,.ro (List.map Agent.ds a0)),(1,.ro (List.map Agent.ds a1)),(5,.int .i64 u)],[],[]⟩):=by
 induction n with
 |zero=>exact((fun _ _ _ _ h=>by rw [Ds] at h; cases h))
 | succ n ih=>
  have ih0:=ih
  ·intro a0 a1 u r h
   rw [Ds] at h
   refine AS rfl rfl (Z ?_)
   refine AY (Z ?_)
   refine AD h (fun h=>Z ?_) (fun h=>Z ?_)
   ·refine AF ?_
    refine Aa [] .fin (by kernel_rfl) (Z ?_)
    replace h:=AB h; obtain⟨w,y,h⟩:=h
    refine AL y (Agent.ds_len _) (Z ?_)
    replace h:=AB h; obtain⟨q,g,h⟩:=h
    refine AL g (Agent.ds_len _) (Z ?_)
    replace h:=AB h; obtain⟨j,k,h⟩:=h
    refine AH (Sk _ _ _ k) (Z ?_)
    refine AF ?_
    refine AD h (fun h=>Z ?_) (fun h=>Z ?_)
    ·cases h
     simp only [go_sem]
    ·refine AF ?_
     exact lpF (ih0 a0 a1 (IntKind.i64.wrap (u+1)) _ h) [] []
   ·refine AF ?_
    cases h
    simp only [go_sem]
theorem Qz (a0 a1 r) (h:H3 a0 a1=some r):AC Tryz.prog 37 [.ro (List.map Agent.ds a0),.ro (List.map Agent.ds a1)] (.bool r):=by
 unfold H3 at h
 refine acF Tryz.func37 mixed (h:=Z ?_)
 refine AD h (fun h=>Z ?_) (fun h=>Z ?_)
 ·cases h
  simp only [go_sem]
 ·refine AF ?_
  exact loF (N6 fuel a0 a1 0 _ h) [] []
theorem VL (a0 a1 r) (h:K5 a0 a1=some r):AC Tryz.prog 12 [.agg (Net.avs a0),.agg (Net.avs a1)] (.bool r):=by
 unfold K5 at h
 refine acF Tryz.func12 mixed (h:=Z ?_)
 replace h:=AB h; obtain⟨u,w,h⟩:=h
 refine AH (Qz _ _ _ w) (Z ?_)
 refine AF ?_
 refine AD h (fun h=>Z ?_) (fun h=>Z ?_)
 ·cases h
  simp only [go_sem]
 ·refine AF ?_
  cases h
  simp only [go_sem]
theorem QR (a0 a1 r) (h:Gr a0 a1=some r):AC Tryz.prog 242 [.agg (Port.avs a0),.agg (Port.avs a1)] (.bool r):=by
 unfold Gr at h
 refine acF Tryz.func242 mixed (h:=Z ?_)
 refine AD h (fun h=>Z ?_) (fun h=>Z ?_)
 ·refine AF ?_
  cases h
  simp only [go_sem]
 ·refine AD h (fun h=>Z ?_) (fun h=>Z ?_)
  ·refine AF ?_
   cases h
   simp only [go_sem]
  ·refine AF ?_
   cases h
   simp only [go_sem]
theorem MM (n:Nat):(∀a0 u w r,Bl n a0 u w=some r→Ax Tryz.prog Tryz.f187 [1,1,0,1,0] (.ow (some 4) (List.map Wire.ds r)) ⟨[(0,.rop [.ro (List.map Agent.ds a0.agents)] 0),(3,.own 1000003000),(4,.int .i64 w)],[(1000003000,some ⟨List.map Wire.ds u,some 4,0,.no⟩)],[]⟩)∧
    (∀a0 w y q r,Bm n a0 w y q=some r→Ax Tryz.prog Tryz.f187 [1,1,0,1,0,0,1,0,0,1,0] (.ow (some 4) (List.map Wire.ds r)) ⟨[(0,.rop [.ro (List.map Agent.ds a0.agents)] 0),(3,.own 1000005000),(4,.int .i64 w),(5,.int .i64 q)],[(1000005000,some ⟨List.map Wire.ds y,some 4,0,.no⟩)],[]⟩):=by
 induction n with
 |zero=>exact⟨(fun _ _ _ _ h=>by rw [Bl] at h; cases h),(fun _ _ _ _ _ h=>by rw [Bm] at h; cases h)⟩
 | succ n ih=>
  obtain⟨ih0,ih1⟩:=ih
  refine⟨?_,?_⟩
  ·intro a0 u w r h
   rw [Bl] at h
   refine AS rfl rfl (Z ?_)
   refine AY (Z ?_)
   refine AD h (fun h=>Z ?_) (fun h=>Z ?_)
   ·refine AF ?_
    exact loF (ih1 a0 w u 0 _ h) [(1000005000,1000003000)] []
   ·refine AF ?_
    cases h
    simp only [go_sem]
  ·intro a0 w y q r h
   rw [Bm] at h
   refine AS rfl rfl (Z ?_)
   refine AY (Z ?_)
   replace h:=AB h; obtain⟨g,j,h⟩:=h
   refine AL j (Agent.ds_len _) (Z ?_)
   refine AD h (fun h=>Z ?_) (fun h=>Z ?_)
   ·refine AF ?_
    refine AF ?_
    refine Aa [] .fin (by kernel_rfl) (Z ?_)
    replace h:=AB h; obtain⟨k,b,h⟩:=h
    refine AL b (Agent.ds_len _) (Z ?_)
    replace h:=AB h; obtain⟨d,c,h⟩:=h
    refine AL c (Port.ds_len _) (Z ?_)
    replace h:=AB h; obtain⟨e,i,h⟩:=h
    refine AH (QR _ _ _ i) (Z ?_)
    refine AF ?_
    refine AD h (fun h=>Z ?_) (fun h=>Z ?_)
    ·refine Aa [false,false,false,false,false,false,false,false,false,false,false,false,false,false,false,true,true] (Tr.sq [15,16] .fin) (by kernel_rfl) (Z ?_)
     replace h:=AB h; obtain⟨l,t,h⟩:=h
     refine AL t (Agent.ds_len _) (Z ?_)
     replace h:=AB h; obtain⟨s,o,h⟩:=h
     refine AL o (Port.ds_len _) (Z ?_)
     replace h:=AB h; obtain⟨z,u1,h⟩:=h
     have hq_:=Au u1
     obtain⟨hv11015a,hv11015b⟩:=hq_
     refine BN .no (Z ?_)
     refine Ad (by refine⟨?_,?_⟩ <;> (try simp only [List.length_map,List.length_append,List.length_cons,List.length_nil] at*) <;> (try unfold maxLen) <;> omega) (Z ?_)
     refine AT (List.map Wire.ds z) (by rw [← hv11015b]; simp only [List.map_append,List.map_cons,List.map_nil,List.nil_append,List.append_nil,go_sem,Wire.ds_eq]) (Z ?_)
     refine AF ?_
     exact lpF (ih1 a0 w z (IntKind.i64.wrap (q+1)) _ h) [(1000005000,176240)] []
    ·refine AF ?_
     exact lpF (ih1 a0 w y (IntKind.i64.wrap (q+1)) _ h) [(1000005000,1000005000)] []
   ·refine AF ?_
    exact lpF (ih0 a0 y (IntKind.i64.wrap (w+1)) _ h) [(1000003000,1000005000)] []
theorem NK (n:Nat):(∀a0 u w r,Bl n a0 u w=some r→Ax Tryz.prog Tryz.f187 [1,1,0,1,0] (.ow (some 4) (List.map Wire.ds r)) ⟨[(0,.rop [.ro (List.map Agent.ds a0.agents)] 0),(3,.own 1000003000),(4,.int .i64 w)],[(1000003000,some ⟨List.map Wire.ds u,some 4,0,.no⟩)],[]⟩):=(MM n).1
theorem Qm (a0 r) (h:GR a0=some r):AC Tryz.prog 187 [.rop (Net.avs a0) 0] (.ow (some 4) (List.map Wire.ds r)):=by
 unfold GR at h
 refine acF Tryz.func187 mixed (h:=Z ?_)
 refine AF ?_
 refine Cd (B9 rfl rfl (NK fuel a0 [] 0 _ h):) (.one ⟨_,.lit 3 2000000000 2000 0 4 .no [] _ _ (by (first|rfl|(simp only [go_sem]; rfl))) (by simp only [go_sem]; rfl) (by (first|rfl|(simp only [go_sem]; rfl))) (by (first|rfl|(simp only [go_sem]; rfl))) (by decide) (by decide) (by simp only [go_sem]) (.done _),[(1000003000,2000000000)],[],?_⟩)
 simp only [go_sem]
 all_goals try rfl
end Go.Proofs.YtclmbjbbojdojaaGreat.Ab
