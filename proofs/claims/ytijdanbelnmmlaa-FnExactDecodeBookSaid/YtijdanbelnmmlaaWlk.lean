/-
 The functions do what their models say. Printed by wip/ab/gen.py.
-/
import Derived.Test.YtijdanbelnmmlaaMod
import Derived.Test.YtijdanbelnmmlaaTi2
namespace Go.Proofs.Ytijdanbelnmmlaa.Ab
set_option linter.unusedVariables false
set_option linter.unusedSimpArgs false
set_option maxRecDepth 20000
set_option maxHeartbeats 4000000
open Go.RowKit
theorem Ez (n:Nat):(∀ (a0:List Core) (u:Int) (f1:(Core→Option Bool)) (g1:FuncId) (c1:List AV) (s1:Still c1) (h1:∀ (y0:Core) (q:Bool),f1 y0=some q→AC Try.prog g1 (.agg (Core.avs y0)::c1) (.bool q)) (r:Int),Am n a0 u f1=some r→BX Try.prog Try.f54 [1,0,1,0] (.int .i64 r) ⟨[(0,.ro (List.map Core.ds a0)),(1,.fn g1 c1),(7,.int .i64 ((List.length a0:Nat):Int)),(8,.int .i64 u)],[],[]⟩):=by
 induction n with
 |zero=>exact((fun _ _ _ _ _ _ _ _ h=>by rw [Am] at h; cases h))
 | succ n ih=>
  have ih0:=ih
  ·intro a0 u f1 g1 c1 s1 h1 r h
   rw [Am] at h
   refine AP rfl rfl ?_
   try simp only [go_sem,s1.k,s1.r,s1.c,s1.p]
   refine A3 ?_
   try simp only [go_sem,s1.k,s1.r,s1.c,s1.p]
   refine AB h (fun h=>?_) (fun h=>?_)
   ·try simp only [go_sem,s1.k,s1.r,s1.c,s1.p]
    refine EI ?_
    try simp only [go_sem,s1.k,s1.r,s1.c,s1.p]
    replace h:=AH h; obtain⟨w,y,h⟩:=h
    refine Af y (Core.ds_len _) ?_
    try simp only [go_sem,s1.k,s1.r,s1.c,s1.p]
    replace h:=AH h; obtain⟨g,j,h⟩:=h
    refine AK (h1 _ _ j) ?_
    try simp only [go_sem,s1.k,s1.r,s1.c,s1.p]
    refine EI ?_
    try simp only [go_sem,s1.k,s1.r,s1.c,s1.p]
    refine AB h (fun h=>?_) (fun h=>?_)
    ·try simp only [go_sem,s1.k,s1.r,s1.c,s1.p]
     cases h
     simp only [go_sem,s1.k,s1.r,s1.c,s1.p]
    ·try simp only [go_sem,s1.k,s1.r,s1.c,s1.p]
     refine EI ?_
     try simp only [go_sem,s1.k,s1.r,s1.c,s1.p]
     refine QO (Fp rfl rfl (ih0 a0 (IntKind.i64.wrap (u+1)) f1 g1 c1 s1 h1 _ h):) (.one ⟨_,.done _,[],[],?_⟩)
     try simp only [go_sem,s1.k,s1.r,s1.c,s1.p]
   ·try simp only [go_sem,s1.k,s1.r,s1.c,s1.p]
    refine EI ?_
    try simp only [go_sem,s1.k,s1.r,s1.c,s1.p]
    cases h
    simp only [go_sem,s1.k,s1.r,s1.c,s1.p]
theorem Fj (a0:List Core) (f1:(Core→Option Bool)) (g1:FuncId) (c1:List AV) (s1:Still c1) (h1:∀ (y0:Core) (q:Bool),f1 y0=some q→AC Try.prog g1 (.agg (Core.avs y0)::c1) (.bool q)) (r:Int) (h:B7 a0 f1=some r):AC Try.prog 54 [.ro (List.map Core.ds a0),.fn g1 c1] (.int .i64 r):=by
 unfold B7 at h
 refine acF Try.func54 mixed (h:=?_)
 try simp only [go_sem,s1.k,s1.r,s1.c,s1.p]
 refine Ef (Fp rfl rfl (Ez fuel a0 0 f1 g1 c1 s1 h1 _ h):) (.one ⟨_,.done _,[],[],?_⟩)
 try simp only [go_sem,s1.k,s1.r,s1.c,s1.p]
theorem DH (a0:List Core) (f1:(Core→Option Bool)) (g1:FuncId) (c1:List AV) (s1:Still c1) (h1:∀ (y0:Core) (q:Bool),f1 y0=some q→AC Try.prog g1 (.agg (Core.avs y0)::c1) (.bool q)) (r:Bool) (h:An a0 f1=some r):AC Try.prog 44 [.ro (List.map Core.ds a0),.fn g1 c1] (.bool r):=by
 unfold An at h
 refine acF Try.func44 mixed (h:=?_)
 try simp only [go_sem,s1.k,s1.r,s1.c,s1.p]
 replace h:=AH h; obtain⟨u,w,h⟩:=h
 refine AK (Fj _ _ g1 c1 s1 h1 _ w) ?_
 try simp only [go_sem,s1.k,s1.r,s1.c,s1.p]
 refine EI ?_
 try simp only [go_sem,s1.k,s1.r,s1.c,s1.p]
 cases h
 simp only [go_sem,s1.k,s1.r,s1.c,s1.p]
theorem IS (a0 r) (h:GZ a0=some r):AC Try.prog 53 [.int .i64 a0] (.bool r):=by
 unfold GZ at h
 refine acF Try.func53 mixed (h:=Z ?_)
 refine AB h (fun h=>Z ?_) (fun h=>Z ?_)
 ·refine AF ?_
  cases h
  simp only [go_sem]
 ·refine AF ?_
  cases h
  simp only [go_sem]
theorem Fz (n:Nat):(∀ (a0:List Int) (u:Int) (f1:(Int→Option Bool)) (g1:FuncId) (c1:List AV) (s1:Still c1) (h1:∀ (y0:Int) (q:Bool),f1 y0=some q→AC Try.prog g1 (.int .i64 y0::c1) (.bool q)) (r:Int),A5 n a0 u f1=some r→BX Try.prog Try.f67 [1,0,1,0] (.int .i64 r) ⟨[(0,.ro (List.map BC a0)),(1,.fn g1 c1),(7,.int .i64 ((List.length a0:Nat):Int)),(8,.int .i64 u)],[],[]⟩):=by
 induction n with
 |zero=>exact((fun _ _ _ _ _ _ _ _ h=>by rw [A5] at h; cases h))
 | succ n ih=>
  have ih0:=ih
  ·intro a0 u f1 g1 c1 s1 h1 r h
   rw [A5] at h
   refine AP rfl rfl ?_
   try simp only [go_sem,s1.k,s1.r,s1.c,s1.p]
   refine A3 ?_
   try simp only [go_sem,s1.k,s1.r,s1.c,s1.p]
   refine AB h (fun h=>?_) (fun h=>?_)
   ·try simp only [go_sem,s1.k,s1.r,s1.c,s1.p]
    refine EI ?_
    try simp only [go_sem,s1.k,s1.r,s1.c,s1.p]
    replace h:=AH h; obtain⟨w,y,h⟩:=h
    refine Af y rfl ?_
    try simp only [go_sem,s1.k,s1.r,s1.c,s1.p]
    replace h:=AH h; obtain⟨g,j,h⟩:=h
    refine AK (h1 _ _ j) ?_
    try simp only [go_sem,s1.k,s1.r,s1.c,s1.p]
    refine EI ?_
    try simp only [go_sem,s1.k,s1.r,s1.c,s1.p]
    refine AB h (fun h=>?_) (fun h=>?_)
    ·try simp only [go_sem,s1.k,s1.r,s1.c,s1.p]
     cases h
     simp only [go_sem,s1.k,s1.r,s1.c,s1.p]
    ·try simp only [go_sem,s1.k,s1.r,s1.c,s1.p]
     refine EI ?_
     try simp only [go_sem,s1.k,s1.r,s1.c,s1.p]
     refine QO (Fp rfl rfl (ih0 a0 (IntKind.i64.wrap (u+1)) f1 g1 c1 s1 h1 _ h):) (.one ⟨_,.done _,[],[],?_⟩)
     try simp only [go_sem,s1.k,s1.r,s1.c,s1.p]
   ·try simp only [go_sem,s1.k,s1.r,s1.c,s1.p]
    refine EI ?_
    try simp only [go_sem,s1.k,s1.r,s1.c,s1.p]
    cases h
    simp only [go_sem,s1.k,s1.r,s1.c,s1.p]
theorem Gl (a0:List Int) (f1:(Int→Option Bool)) (g1:FuncId) (c1:List AV) (s1:Still c1) (h1:∀ (y0:Int) (q:Bool),f1 y0=some q→AC Try.prog g1 (.int .i64 y0::c1) (.bool q)) (r:Int) (h:C9 a0 f1=some r):AC Try.prog 67 [.ro (List.map BC a0),.fn g1 c1] (.int .i64 r):=by
 unfold C9 at h
 refine acF Try.func67 mixed (h:=?_)
 try simp only [go_sem,s1.k,s1.r,s1.c,s1.p]
 refine Ef (Fp rfl rfl (Fz fuel a0 0 f1 g1 c1 s1 h1 _ h):) (.one ⟨_,.done _,[],[],?_⟩)
 try simp only [go_sem,s1.k,s1.r,s1.c,s1.p]
theorem Cp (a0:List Int) (f1:(Int→Option Bool)) (g1:FuncId) (c1:List AV) (s1:Still c1) (h1:∀ (y0:Int) (q:Bool),f1 y0=some q→AC Try.prog g1 (.int .i64 y0::c1) (.bool q)) (r:Bool) (h:As a0 f1=some r):AC Try.prog 59 [.ro (List.map BC a0),.fn g1 c1] (.bool r):=by
 unfold As at h
 refine acF Try.func59 mixed (h:=?_)
 try simp only [go_sem,s1.k,s1.r,s1.c,s1.p]
 replace h:=AH h; obtain⟨u,w,h⟩:=h
 refine AK (Gl _ _ g1 c1 s1 h1 _ w) ?_
 try simp only [go_sem,s1.k,s1.r,s1.c,s1.p]
 refine EI ?_
 try simp only [go_sem,s1.k,s1.r,s1.c,s1.p]
 cases h
 simp only [go_sem,s1.k,s1.r,s1.c,s1.p]
theorem Jz (a0 r) (h:EJ a0=some r):AC Try.prog 71 [.int .i64 a0] (.bool r):=by
 unfold EJ at h
 refine acF Try.func71 mixed (h:=Z ?_)
 refine AB h (fun h=>Z ?_) (fun h=>Z ?_)
 ·refine AF ?_
  cases h
  simp only [go_sem]
 ·refine AF ?_
  cases h
  simp only [go_sem]
theorem Gj (a0 r) (h:Db a0=some r):AC Try.prog 72 [.int .i64 a0] (.bool r):=by
 unfold Db at h
 refine acF Try.func72 mixed (h:=Z ?_)
 refine AB h (fun h=>Z ?_) (fun h=>Z ?_)
 ·refine AF ?_
  cases h
  simp only [go_sem]
 ·refine AF ?_
  cases h
  simp only [go_sem]
theorem HT (a0 r) (h:CZ a0=some r):AC Try.prog 73 [.int .i64 a0] (.bool r):=by
 unfold CZ at h
 refine acF Try.func73 mixed (h:=Z ?_)
 replace h:=AH h; obtain⟨u,w,h⟩:=h
 refine AK (Gj _ _ w) (Z ?_)
 refine AF ?_
 cases h
 simp only [go_sem]
theorem Ae (a0:Core) (u:Bool) (w:Bool) (y:Int) (r:Bool) (h:AR a0 u w y=some r):BX Try.prog Try.f68 [1,1,1,1,1] (.bool r) ⟨[(1,.box 1000002500 0),(3,.int .i64 ((List.length a0.kids:Nat):Int)),(4,.bool u),(5,.bool w),(6,.int .i64 y)],[],[(1000002500,some [.int .i64 a0.kind,.int .i64 a0.value,.ro (List.map BC a0.data),.ro (List.map Core.ds a0.kids)])]⟩:=by
 unfold AR at h
 refine AP rfl rfl (Z ?_)
 refine AB h (fun h=>Z ?_) (fun h=>Z ?_)
 ·refine AB h (fun h=>Z ?_) (fun h=>Z ?_)
  ·refine AB h (fun h=>Z ?_) (fun h=>Z ?_)
   ·replace h:=AH h; obtain⟨g,j,h⟩:=h
    refine AK (Cp _ _ 73 [] (Still.of rfl) (fun y0 q hq=>HT y0  q hq) _ j) (Z ?_)
    refine AF ?_
    cases h
    simp only [go_sem]
   ·refine AF ?_
    cases h
    simp only [go_sem]
  ·refine AF ?_
   cases h
   simp only [go_sem]
 ·refine AF ?_
  cases h
  simp only [go_sem]
theorem EQ (a0:Core) (u:Bool) (r:Bool) (h:CN a0 u=some r):BX Try.prog Try.f68 [1,1,1,1,0,1,0,1,1,1,1,1,1,1,1,1] (.bool r) ⟨[(1,.box 1000001500 0),(3,.int .i64 ((List.length a0.kids:Nat):Int)),(5,.bool (decide (((List.length a0.data:Nat):Int)=0))),(6,.int .i64 0),(15,.int .i64 a0.kind),(42,.bool u)],[],[(1000001500,some [.int .i64 a0.kind,.int .i64 a0.value,.ro (List.map BC a0.data),.ro (List.map Core.ds a0.kids)])]⟩:=by
 unfold CN at h
 refine AP rfl rfl (Z ?_)
 refine AB h (fun h=>Z ?_) (fun h=>Z ?_)
 ·exact BS (Ae a0 (decide (a0.value=0)) (decide (((List.length a0.data:Nat):Int)=0)) 2 _ h) [] [(1000002500,1000001500)]
 ·refine AB h (fun h=>Z ?_) (fun h=>Z ?_)
  ·refine AB h (fun h=>Z ?_) (fun h=>Z ?_)
   ·refine AB h (fun h=>Z ?_) (fun h=>Z ?_)
    ·refine AB h (fun h=>Z ?_) (fun h=>Z ?_)
     ·refine AF ?_
      cases h
      simp only [go_sem]
     ·refine AF ?_
      cases h
      simp only [go_sem]
    ·refine AF ?_
     cases h
     simp only [go_sem]
   ·refine AF ?_
    cases h
    simp only [go_sem]
  ·refine AB h (fun h=>Z ?_) (fun h=>Z ?_)
   ·refine B3 [] .fin (by kernel_rfl) (Z ?_)
    refine AB h (fun h=>Z ?_) (fun h=>Z ?_)
    ·exact BS (Ae a0 (decide (a0.value=0)) (decide (((List.length a0.data:Nat):Int)≤4)) 1 _ h) [] [(1000002500,1000001500)]
    ·exact BS (Ae a0 (decide (a0.value=0)) false 1 _ h) [] [(1000002500,1000001500)]
   ·refine AB h (fun h=>Z ?_) (fun h=>Z ?_)
    ·refine B3 [] .fin (by kernel_rfl) (Z ?_)
     exact BS (Ae a0 (decide (a0.value=0)) (decide (((List.length a0.data:Nat):Int)=2)) 1 _ h) [] [(1000002500,1000001500)]
    ·refine AB h (fun h=>Z ?_) (fun h=>Z ?_)
     ·replace h:=AH h; obtain⟨w,y,h⟩:=h
      refine AK (Gj _ _ y) (Z ?_)
      exact BS (Ae a0 w (decide (((List.length a0.data:Nat):Int)=0)) 0 _ h) [] [(1000002500,1000001500)]
     ·cases h
      simp only [go_sem]
theorem ER (a0:Core) (u:Bool) (r:Bool) (h:CO a0 u=some r):BX Try.prog Try.f68 [1,1,1,1,0,1,0,1,1,1,1,1,1,1] (.bool r) ⟨[(1,.box 1000000500 0),(3,.int .i64 ((List.length a0.kids:Nat):Int)),(5,.bool (decide (((List.length a0.data:Nat):Int)=0))),(6,.int .i64 0),(15,.int .i64 a0.kind),(36,.bool u)],[],[(1000000500,some [.int .i64 a0.kind,.int .i64 a0.value,.ro (List.map BC a0.data),.ro (List.map Core.ds a0.kids)])]⟩:=by
 unfold CO at h
 refine AP rfl rfl (Z ?_)
 refine AB h (fun h=>Z ?_) (fun h=>Z ?_)
 ·exact BS (Ae a0 (decide (a0.value=0)) (decide (((List.length a0.data:Nat):Int)=0)) 1 _ h) [] [(1000002500,1000000500)]
 ·refine AB h (fun h=>Z ?_) (fun h=>Z ?_)
  ·exact BS (EQ a0 (decide (a0.kind=5)) _ h) [] [(1000001500,1000000500)]
  ·exact BS (EQ a0 (decide (a0.kind=7)) _ h) [] [(1000001500,1000000500)]
theorem IT (a0 r) (h:DE a0=some r):AC Try.prog 68 [.agg (Core.avs a0)] (.bool r):=by
 unfold DE at h
 refine acF Try.func68 mixed (h:=Z ?_)
 refine B3 [] .fin (by kernel_rfl) (Z ?_)
 refine AF ?_
 refine AB h (fun h=>Z ?_) (fun h=>Z ?_)
 ·refine AB h (fun h=>Z ?_) (fun h=>Z ?_)
  ·exact BS (Ae a0 (decide (a0.value≤255)) (decide (((List.length a0.data:Nat):Int)=0)) 0 _ h) [] [(1000002500,1000)]
  ·exact BS (Ae a0 false (decide (((List.length a0.data:Nat):Int)=0)) 0 _ h) [] [(1000002500,1000)]
 ·refine AB h (fun h=>Z ?_) (fun h=>Z ?_)
  ·replace h:=AH h; obtain⟨u,w,h⟩:=h
   refine AK (IS _ _ w) (Z ?_)
   exact BS (Ae a0 u (decide (((List.length a0.data:Nat):Int)=0)) 0 _ h) [] [(1000002500,1000)]
  ·refine AB h (fun h=>Z ?_) (fun h=>Z ?_)
   ·replace h:=AH h; obtain⟨y,q,h⟩:=h
    refine AK (Jz _ _ q) (Z ?_)
    exact BS (Ae a0 y (decide (((List.length a0.data:Nat):Int)=0)) 2 _ h) [] [(1000002500,1000)]
   ·refine AB h (fun h=>Z ?_) (fun h=>Z ?_)
    ·exact BS (ER a0 (decide (a0.kind=4)) _ h) [] [(1000000500,1000)]
    ·exact BS (ER a0 (decide (a0.kind=6)) _ h) [] [(1000000500,1000)]
theorem J0 (n:Nat):(∀a0 r,C6 n a0=some r→AC Try.prog 63 [.agg (Core.avs a0)] (.tup [.int .i64 r.1,.int .i64 r.2.1,.bool r.2.2]))∧
    (∀a0 u w y r,Bt n a0 u w y=some r→BX Try.prog Try.f63 [1,1,1,0,1,0] (.tup [.int .i64 r.1,.int .i64 r.2.1,.bool r.2.2]) ⟨[(2,.int .i64 u),(3,.int .i64 w),(14,.ro (List.map Core.ds a0.kids)),(15,.int .i64 ((List.length a0.kids:Nat):Int)),(16,.int .i64 y)],[],[]⟩):=by
 induction n with
 |zero=>exact⟨(fun _ _ h=>by rw [C6] at h; cases h),(fun _ _ _ _ _ h=>by rw [Bt] at h; cases h)⟩
 | succ n ih=>
  obtain⟨ih0,ih1⟩:=ih
  refine⟨?_,?_⟩
  ·intro a0 r h
   rw [C6] at h
   refine acF Try.func63 mixed (h:=Z ?_)
   replace h:=AH h; obtain⟨q,g,h⟩:=h
   refine AK (IT _ _ g) (Z ?_)
   refine AF ?_
   refine AB h (fun h=>Z ?_) (fun h=>Z ?_)
   ·cases h
    simp only [go_sem]
   ·refine AF ?_
    exact loF (ih1 a0 1 1 0 _ h) [] []
  ·intro a0 u w y r h
   rw [Bt] at h
   refine AP rfl rfl (Z ?_)
   refine A3 (Z ?_)
   refine AB h (fun h=>Z ?_) (fun h=>Z ?_)
   ·refine AF ?_
    replace h:=AH h; obtain⟨j,k,h⟩:=h
    refine Af k (Core.ds_len _) (Z ?_)
    refine AF ?_
    replace h:=AH h; obtain⟨b,d,h⟩:=h
    refine AK (ih0 _ _ d) (Z ?_)
    refine AF ?_
    refine AB h (fun h=>Z ?_) (fun h=>Z ?_)
    ·cases h
     simp only [go_sem]
    ·refine AF ?_
     refine AF ?_
     exact lpF (ih1 a0 (if u<(IntKind.i64.wrap (b.1 +1)) then (IntKind.i64.wrap (b.1 +1)) else u) (IntKind.i64.wrap (w+b.2.1)) (IntKind.i64.wrap (y+1)) _ h) [] []
   ·refine AF ?_
    cases h
    simp only [go_sem]
theorem Lb (n:Nat):(∀a0 r,C6 n a0=some r→AC Try.prog 63 [.agg (Core.avs a0)] (.tup [.int .i64 r.1,.int .i64 r.2.1,.bool r.2.2])):=(J0 n).1
theorem JU (n:Nat):(∀a0 r,Ca n a0=some r→AC Try.prog 69 [.agg (Core.avs a0)] (.tup [.int .i64 r.1,.int .i64 r.2]))∧
    (∀a0 u w y r,Bf n a0 u w y=some r→BX Try.prog Try.f69 [1,1,0,1,0] (.tup [.int .i64 r.1,.int .i64 r.2]) ⟨[(2,.int .i64 u),(3,.int .i64 w),(9,.ro (List.map Core.ds a0.kids)),(10,.int .i64 ((List.length a0.kids:Nat):Int)),(11,.int .i64 y)],[],[]⟩):=by
 induction n with
 |zero=>exact⟨(fun _ _ h=>by rw [Ca] at h; cases h),(fun _ _ _ _ _ h=>by rw [Bf] at h; cases h)⟩
 | succ n ih=>
  obtain⟨ih0,ih1⟩:=ih
  refine⟨?_,?_⟩
  ·intro a0 r h
   rw [Ca] at h
   refine acF Try.func69 mixed (h:=Z ?_)
   exact loF (ih1 a0 1 1 0 _ h) [] []
  ·intro a0 u w y r h
   rw [Bf] at h
   refine AP rfl rfl (Z ?_)
   refine A3 (Z ?_)
   refine AB h (fun h=>Z ?_) (fun h=>Z ?_)
   ·refine AF ?_
    replace h:=AH h; obtain⟨q,g,h⟩:=h
    refine Af g (Core.ds_len _) (Z ?_)
    refine AF ?_
    replace h:=AH h; obtain⟨j,k,h⟩:=h
    refine AK (ih0 _ _ k) (Z ?_)
    refine AF ?_
    refine AF ?_
    exact lpF (ih1 a0 (if u<(IntKind.i64.wrap (j.1 +1)) then (IntKind.i64.wrap (j.1 +1)) else u) (IntKind.i64.wrap (w+j.2)) (IntKind.i64.wrap (y+1)) _ h) [] []
   ·refine AF ?_
    cases h
    simp only [go_sem]
theorem J1 (n:Nat):(∀a0 r,Ca n a0=some r→AC Try.prog 69 [.agg (Core.avs a0)] (.tup [.int .i64 r.1,.int .i64 r.2])):=(JU n).1
theorem L0 (a0 r) (h:FV a0=some r):AC Try.prog 64 [.agg (Core.avs a0)] (.bool r):=by
 unfold FV at h
 refine acF Try.func64 mixed (h:=Z ?_)
 replace h:=AH h; obtain⟨u,w,h⟩:=h
 refine AK (J1 fuel _ _ w) (Z ?_)
 refine AF ?_
 refine AB h (fun h=>Z ?_) (fun h=>Z ?_)
 ·refine AF ?_
  cases h
  simp only [go_sem]
 ·refine AF ?_
  cases h
  simp only [go_sem]
theorem Lc (a0 r) (h:Em a0=some r):AC Try.prog 55 [.agg (Core.avs a0)] (.bool r):=by
 unfold Em at h
 refine acF Try.func55 mixed (h:=Z ?_)
 replace h:=AH h; obtain⟨u,w,h⟩:=h
 refine AK (Lb fuel _ _ w) (Z ?_)
 refine AF ?_
 refine AB h (fun h=>Z ?_) (fun h=>Z ?_)
 ·replace h:=AH h; obtain⟨y,q,h⟩:=h
  refine AK (L0 _ _ q) (Z ?_)
  refine AF ?_
  cases h
  simp only [go_sem]
 ·refine AF ?_
  cases h
  simp only [go_sem]
theorem IU (a0 r) (h:Hm a0=some r):AC Try.prog 70 [.bool a0] (.int .i64 r):=by
 unfold Hm at h
 refine acF Try.func70 mixed (h:=Z ?_)
 refine AB h (fun h=>Z ?_) (fun h=>Z ?_)
 ·cases h
  simp only [go_sem]
 ·refine AF ?_
  cases h
  simp only [go_sem]
theorem J2 (a0 a1 r) (h:EK a0 a1=some r):AC Try.prog 65 [.agg (Core.avs a0),.int .i64 a1] (.int .i64 r):=by
 unfold EK at h
 refine acF Try.func65 mixed (h:=Z ?_)
 refine AB h (fun h=>Z ?_) (fun h=>Z ?_)
 ·replace h:=AH h; obtain⟨u,w,h⟩:=h
  refine AK (IU _ _ w) (Z ?_)
  refine AF ?_
  cases h
  simp only [go_sem]
 ·refine AB h (fun h=>Z ?_) (fun h=>Z ?_)
  ·replace h:=AH h; obtain⟨u,w,h⟩:=h
   refine AK (IU _ _ w) (Z ?_)
   refine AF ?_
   cases h
   simp only [go_sem]
  ·replace h:=AH h; obtain⟨u,w,h⟩:=h
   refine AK (IU _ _ w) (Z ?_)
   refine AF ?_
   cases h
   simp only [go_sem]
theorem I3 (n:Nat):(∀a0 a1 r,B9 n a0 a1=some r→AC Try.prog 56 [.agg (Core.avs a0),.int .i64 a1] (.bool r))∧
    (∀a0 a1 u r,Bn n a0 a1 u=some r→BX Try.prog Try.f56 [1,0,1] (.bool r) ⟨[(1,.int .i64 a1),(2,.box 1000000500 0),(15,.bool u)],[],[(1000000500,some [.int .i64 a0.kind,.int .i64 a0.value,.ro (List.map BC a0.data),.ro (List.map Core.ds a0.kids)])]⟩)∧
    (∀a0 a1 w r,BT n a0 a1 w=some r→BX Try.prog Try.f56 [1,1,0,1,0] (.bool r) ⟨[(1,.int .i64 a1),(2,.box 1000002500 0),(17,.ro (List.map Core.ds a0.kids)),(18,.int .i64 ((List.length a0.kids:Nat):Int)),(19,.int .i64 w)],[],[(1000002500,some [.int .i64 a0.kind,.int .i64 a0.value,.ro (List.map BC a0.data),.ro (List.map Core.ds a0.kids)])]⟩):=by
 induction n with
 |zero=>exact⟨(fun _ _ _ h=>by rw [B9] at h; cases h),(fun _ _ _ _ h=>by rw [Bn] at h; cases h),(fun _ _ _ _ h=>by rw [BT] at h; cases h)⟩
 | succ n ih=>
  obtain⟨ih0,ih1,ih2⟩:=ih
  refine⟨?_,?_,?_⟩
  ·intro a0 a1 r h
   rw [B9] at h
   refine acF Try.func56 mixed (h:=Z ?_)
   refine AB h (fun h=>Z ?_) (fun h=>Z ?_)
   ·exact BS (ih1 a0 a1 (decide (a1≤a0.value)) _ h) [] [(1000000500,1000)]
   ·exact BS (ih1 a0 a1 false _ h) [] [(1000000500,1000)]
  ·intro a0 a1 u r h
   rw [Bn] at h
   refine AP rfl rfl (Z ?_)
   refine AB h (fun h=>Z ?_) (fun h=>Z ?_)
   ·cases h
    simp only [go_sem]
   ·refine AF ?_
    exact loF (ih2 a0 a1 0 _ h) [] [(1000002500,1000000500)]
  ·intro a0 a1 w r h
   rw [BT] at h
   refine AP rfl rfl (Z ?_)
   refine A3 (Z ?_)
   refine AB h (fun h=>Z ?_) (fun h=>Z ?_)
   ·refine AF ?_
    replace h:=AH h; obtain⟨y,q,h⟩:=h
    refine Af q (Core.ds_len _) (Z ?_)
    refine AF ?_
    refine B3 [] .fin (by kernel_rfl) (Z ?_)
    replace h:=AH h; obtain⟨g,j,h⟩:=h
    refine AK (J2 _ _ _ j) (Z ?_)
    replace h:=AH h; obtain⟨k,b,h⟩:=h
    refine AK (ih0 _ _ _ b) (Z ?_)
    refine AF ?_
    refine AB h (fun h=>Z ?_) (fun h=>Z ?_)
    ·cases h
     simp only [go_sem]
    ·refine AF ?_
     exact lpF (ih2 a0 a1 (IntKind.i64.wrap (w+1)) _ h) [] [(1000002500,1000002500)]
   ·refine AF ?_
    cases h
    simp only [go_sem]
theorem JV (n:Nat):(∀a0 a1 r,B9 n a0 a1=some r→AC Try.prog 56 [.agg (Core.avs a0),.int .i64 a1] (.bool r)):=(I3 n).1
theorem L2 (a0 r) (h:FW a0=some r):AC Try.prog 46 [.agg (Core.avs a0)] (.bool r):=by
 unfold FW at h
 refine acF Try.func46 mixed (h:=Z ?_)
 replace h:=AH h; obtain⟨u,w,h⟩:=h
 refine AK (Lc _ _ w) (Z ?_)
 refine AB h (fun h=>Z ?_) (fun h=>Z ?_)
 ·replace h:=AH h; obtain⟨y,q,h⟩:=h
  refine AK (JV fuel _ _ _ q) (Z ?_)
  refine AF ?_
  cases h
  simp only [go_sem]
 ·refine AF ?_
  cases h
  simp only [go_sem]
theorem J3 (n:Nat):(∀ (a0:Core) (f1:(Core→Option Bool)) (g1:FuncId) (c1:List AV) (s1:Still c1) (h1:∀ (y0:Core) (q:Bool),f1 y0=some q→AC Try.prog g1 (.agg (Core.avs y0)::c1) (.bool q)) (r:Bool),En n a0 f1=some r→AC Try.prog 66 [.agg (Core.avs a0),.rop [.fn g1 c1] 0] (.bool r))∧
    (∀ (a0:Core) (f1:(Core→Option Bool)) (g1:FuncId) (c1:List AV) (s1:Still c1) (h1:∀ (y0:Core) (q:Bool),f1 y0=some q→AC Try.prog g1 (.agg (Core.avs y0)::c1) (.bool q)) (r:Bool),D9 n a0 f1=some r→AC Try.prog 57 [.agg (Core.avs a0),.fn g1 c1] (.bool r)):=by
 induction n with
 |zero=>exact⟨(fun _ _ _ _ _ _ _ h=>by rw [En] at h; cases h),(fun _ _ _ _ _ _ _ h=>by rw [D9] at h; cases h)⟩
 | succ n ih=>
  obtain⟨ih0,ih1⟩:=ih
  refine⟨?_,?_⟩
  ·intro a0 f1 g1 c1 s1 h1 r h
   rw [En] at h
   refine acF Try.func66 mixed (h:=?_)
   try simp only [go_sem,s1.k,s1.r,s1.c,s1.p]
   replace h:=AH h; obtain⟨u,w,h⟩:=h
   refine AK (ih1 _ _ g1 c1 s1 h1 _ w) ?_
   try simp only [go_sem,s1.k,s1.r,s1.c,s1.p]
   refine EI ?_
   try simp only [go_sem,s1.k,s1.r,s1.c,s1.p]
   cases h
   simp only [go_sem,s1.k,s1.r,s1.c,s1.p]
  ·intro a0 f1 g1 c1 s1 h1 r h
   rw [D9] at h
   refine acF Try.func57 mixed (h:=?_)
   try simp only [go_sem,s1.k,s1.r,s1.c,s1.p]
   replace h:=AH h; obtain⟨u,w,h⟩:=h
   refine AK (h1 _ _ w) ?_
   try simp only [go_sem,s1.k,s1.r,s1.c,s1.p]
   refine AB h (fun h=>?_) (fun h=>?_)
   ·try simp only [go_sem,s1.k,s1.r,s1.c,s1.p]
    refine EI ?_
    try simp only [go_sem,s1.k,s1.r,s1.c,s1.p]
    cases h
    simp only [go_sem,s1.k,s1.r,s1.c,s1.p]
   ·try simp only [go_sem,s1.k,s1.r,s1.c,s1.p]
    replace h:=AH h; obtain⟨y,g,h⟩:=h
    refine AK (DH _ _ 66 [.rop [.fn g1 c1] 0] (Still.of (by simp only [C7,Dg,Bool.and_true,Bool.true_and,Bool.and_self,s1.p])) (fun y0 q hq=>ih0 y0 _ g1 c1 s1 h1 q hq) _ g) ?_
    try simp only [go_sem,s1.k,s1.r,s1.c,s1.p]
    refine EI ?_
    try simp only [go_sem,s1.k,s1.r,s1.c,s1.p]
    cases h
    simp only [go_sem,s1.k,s1.r,s1.c,s1.p]
theorem Na (n:Nat):(∀ (a0:Core) (f1:(Core→Option Bool)) (g1:FuncId) (c1:List AV) (s1:Still c1) (h1:∀ (y0:Core) (q:Bool),f1 y0=some q→AC Try.prog g1 (.agg (Core.avs y0)::c1) (.bool q)) (r:Bool),D9 n a0 f1=some r→AC Try.prog 57 [.agg (Core.avs a0),.fn g1 c1] (.bool r)):=(J3 n).2
theorem Fc (a0 a1 r) (h:DF a0 a1=some r):AC Try.prog 60 [.int .i64 a0,.rop [.int .i64 a1] 0] (.bool r):=by
 unfold DF at h
 refine acF Try.func60 mixed (h:=Z ?_)
 cases h
 simp only [go_sem]
theorem JW (a0 a1 r) (h:Eg a0 a1=some r):AC Try.prog 58 [.agg (Core.avs a0),.rop [.int .i64 a1] 0] (.bool r):=by
 unfold Eg at h
 refine acF Try.func58 mixed (h:=Z ?_)
 refine AB h (fun h=>Z ?_) (fun h=>Z ?_)
 ·refine AB h (fun h=>Z ?_) (fun h=>Z ?_)
  ·refine AF ?_
   cases h
   simp only [go_sem]
  ·replace h:=AH h; obtain⟨u,w,h⟩:=h
   refine AK (Cp _ _ 60 [.rop [.int .i64 a1] 0] (Still.of (by simp only [C7,Dg,Bool.and_true,Bool.true_and,Bool.and_self])) (fun y0 q hq=>Fc y0 _ q hq) _ w) (Z ?_)
   refine AF ?_
   cases h
   simp only [go_sem]
 ·replace h:=AH h; obtain⟨u,w,h⟩:=h
  refine AK (Cp _ _ 60 [.rop [.int .i64 a1] 0] (Still.of (by simp only [C7,Dg,Bool.and_true,Bool.true_and,Bool.and_self])) (fun y0 q hq=>Fc y0 _ q hq) _ w) (Z ?_)
  refine AF ?_
  cases h
  simp only [go_sem]
theorem Ld (a0 a1 r) (h:Eo a0 a1=some r):AC Try.prog 47 [.agg (Core.avs a0),.int .i64 a1] (.bool r):=by
 unfold Eo at h
 refine acF Try.func47 mixed (h:=Z ?_)
 replace h:=AH h; obtain⟨u,w,h⟩:=h
 refine AK (Na fuel _ _ 58 [.rop [.int .i64 a1] 0] (Still.of (by simp only [C7,Dg,Bool.and_true,Bool.true_and,Bool.and_self])) (fun y0 q hq=>JW y0 _ q hq) _ w) (Z ?_)
 refine AF ?_
 cases h
 simp only [go_sem]
theorem JX (a0 a1 r) (h:Dr a0 a1=some r):AC Try.prog 45 [.agg (Core.avs a0),.rop (Book.avs a1) 0] (.bool r):=by
 unfold Dr at h
 refine acF Try.func45 mixed (h:=Z ?_)
 replace h:=AH h; obtain⟨u,w,h⟩:=h
 refine AK (L2 _ _ w) (Z ?_)
 refine AB h (fun h=>Z ?_) (fun h=>Z ?_)
 ·refine AF ?_
  cases h
  simp only [go_sem]
 ·replace h:=AH h; obtain⟨y,q,h⟩:=h
  refine AK (Ld _ _ _ q) (Z ?_)
  refine AF ?_
  cases h
  simp only [go_sem]
theorem Fs (a0:Book) (u:Bool) (r:Bool) (h:Cz a0 u=some r):BX Try.prog Try.f32 [1,0,1] (.bool r) ⟨[(1,.box 1000000500 0),(12,.bool u)],[],[(1000000500,some [.ro (List.map Core.ds a0.defs)])]⟩:=by
 unfold Cz at h
 refine AP rfl rfl (Z ?_)
 refine AB h (fun h=>Z ?_) (fun h=>Z ?_)
 ·cases h
  simp only [go_sem]
 ·refine AF ?_
  replace h:=AH h; obtain⟨w,y,h⟩:=h
  refine AK (DH _ _ 45 [.rop [.ro (List.map Core.ds a0.defs)] 0] (Still.of (by simp only [C7,Dg,Bool.and_true,Bool.true_and,Bool.and_self])) (fun y0 q hq=>JX y0 _ q hq) _ y) (Z ?_)
  refine AF ?_
  cases h
  simp only [go_sem]
theorem Lf (a0 r) (h:Ep a0=some r):AC Try.prog 32 [.agg (Book.avs a0)] (.bool r):=by
 unfold Ep at h
 refine acF Try.func32 mixed (h:=Z ?_)
 refine AB h (fun h=>Z ?_) (fun h=>Z ?_)
 ·exact BS (Fs a0 true _ h) [] [(1000000500,1000)]
 ·exact BS (Fs a0 (decide (24<((List.length a0.defs:Nat):Int))) _ h) [] [(1000000500,1000)]
theorem Cq (a0 a1 a2 r) (h:DR a0 a1 a2=some r):AC Try.prog 25 [.int .i64 a0,.int .i64 a1,.int .i64 a2] (.bool r):=by
 unfold DR at h
 refine acF Try.func25 mixed (h:=Z ?_)
 refine AB h (fun h=>Z ?_) (fun h=>Z ?_)
 ·refine AF ?_
  cases h
  simp only [go_sem]
 ·refine AF ?_
  cases h
  simp only [go_sem]
theorem GD (a0:Int) (u:Bool) (r:Int × Int × Int × Int) (h:Ds a0 u=some r):BX Try.prog Try.f61 [1,0,1,0,1,1,1,1,1] (.tup [.int .i64 r.1,.int .i64 r.2.1,.int .i64 r.2.2.1,.int .i64 r.2.2.2]) ⟨[(6,.int .i64 a0),(15,.bool u)],[],[]⟩:=by
 unfold Ds at h
 refine AP rfl rfl (Z ?_)
 refine AB h (fun h=>Z ?_) (fun h=>Z ?_)
 ·cases h
  simp only [go_sem]
 ·refine AB h (fun h=>Z ?_) (fun h=>Z ?_)
  ·cases h
   simp only [go_sem]
  ·refine AB h (fun h=>Z ?_) (fun h=>Z ?_)
   ·cases h
    simp only [go_sem]
   ·refine AB h (fun h=>Z ?_) (fun h=>Z ?_)
    ·cases h
     simp only [go_sem]
    ·refine AF ?_
     cases h
     simp only [go_sem]
theorem Eb (a0:Int) (u:Bool) (r:Int × Int × Int × Int) (h:DJ a0 u=some r):BX Try.prog Try.f61 [1,0,1,0,1,1,1] (.tup [.int .i64 r.1,.int .i64 r.2.1,.int .i64 r.2.2.1,.int .i64 r.2.2.2]) ⟨[(6,.int .i64 a0),(11,.bool u)],[],[]⟩:=by
 unfold DJ at h
 refine AP rfl rfl (Z ?_)
 refine AB h (fun h=>Z ?_) (fun h=>Z ?_)
 ·cases h
  simp only [go_sem]
 ·refine AB h (fun h=>Z ?_) (fun h=>Z ?_)
  ·exact BS (GD a0 (decide (a0=4)) _ h) [] []
  ·exact BS (GD a0 (decide (a0=6)) _ h) [] []
theorem Ec (a0:Int) (u:Bool) (r:Int × Int × Int × Int) (h:DK a0 u=some r):BX Try.prog Try.f61 [1,0,1,0,1] (.tup [.int .i64 r.1,.int .i64 r.2.1,.int .i64 r.2.2.1,.int .i64 r.2.2.2]) ⟨[(6,.int .i64 a0),(7,.bool u)],[],[]⟩:=by
 unfold DK at h
 refine AP rfl rfl (Z ?_)
 refine AB h (fun h=>Z ?_) (fun h=>Z ?_)
 ·cases h
  simp only [go_sem]
 ·refine AB h (fun h=>Z ?_) (fun h=>Z ?_)
  ·exact BS (Eb a0 (decide (a0=3)) _ h) [] []
  ·refine AB h (fun h=>Z ?_) (fun h=>Z ?_)
   ·exact BS (Eb a0 (decide (a0=5)) _ h) [] []
   ·exact BS (Eb a0 (decide (a0=7)) _ h) [] []
theorem L3 (a0 r) (h:FX a0=some r):AC Try.prog 61 [.int .i64 a0] (.tup [.int .i64 r.1,.int .i64 r.2.1,.int .i64 r.2.2.1,.int .i64 r.2.2.2]):=by
 unfold FX at h
 refine acF Try.func61 mixed (h:=Z ?_)
 refine AB h (fun h=>Z ?_) (fun h=>Z ?_)
 ·exact BS (Ec a0 (decide (a0=1)) _ h) [] []
 ·refine AB h (fun h=>Z ?_) (fun h=>Z ?_)
  ·exact BS (Ec a0 (decide (a0=2)) _ h) [] []
  ·exact BS (Ec a0 (decide (a0=11)) _ h) [] []
theorem L4 (a0 r) (h:FY a0=some r):AC Try.prog 62 [.rop (Core.avs a0) 0] (.bool r):=by
 unfold FY at h
 refine acF Try.func62 mixed (h:=Z ?_)
 refine AB h (fun h=>Z ?_) (fun h=>Z ?_)
 ·replace h:=AH h; obtain⟨u,w,h⟩:=h
  refine AK (Cq _ _ _ _ w) (Z ?_)
  refine AF ?_
  cases h
  simp only [go_sem]
 ·refine AB h (fun h=>Z ?_) (fun h=>Z ?_)
  ·replace h:=AH h; obtain⟨y,q,h⟩:=h
   refine AK (Cq _ _ _ _ q) (Z ?_)
   refine AF ?_
   cases h
   simp only [go_sem]
  ·refine AB h (fun h=>Z ?_) (fun h=>Z ?_)
   ·replace h:=AH h; obtain⟨g,j,h⟩:=h
    refine AK (Cq _ _ _ _ j) (Z ?_)
    refine AF ?_
    cases h
    simp only [go_sem]
   ·refine AB h (fun h=>Z ?_) (fun h=>Z ?_)
    ·replace h:=AH h; obtain⟨k,b,h⟩:=h
     refine AK (Cq _ _ _ _ b) (Z ?_)
     refine AF ?_
     cases h
     simp only [go_sem]
    ·refine AB h (fun h=>Z ?_) (fun h=>Z ?_)
     ·replace h:=AH h; obtain⟨d,c,h⟩:=h
      refine AK (Cq _ _ _ _ c) (Z ?_)
      refine AF ?_
      cases h
      simp only [go_sem]
     ·refine AF ?_
      cases h
      simp only [go_sem]
theorem Lg (n:Nat):(∀a0 a1 a2 r,DV n a0 a1 a2=some r→AC Try.prog 51 [.rop (Core.avs a0) 0,.int .i64 a1,.int .i64 a2] (.int .i64 r))∧
    (∀a0 a1 a2 u r,BK n a0 a1 a2 u=some r→BX Try.prog Try.f51 [1,1,0,1] (.int .i64 r) ⟨[(0,.rop [.int .i64 a0.kind,.int .i64 a0.value,.ro (List.map BC a0.data),.ro (List.map Core.ds a0.kids)] 0),(1,.int .i64 a1),(2,.int .i64 a2),(57,.bool u)],[],[]⟩)∧
    (∀a0 a1 a2 w r,CA n a0 a1 a2 w=some r→BX Try.prog Try.f51 [1,1,1,0,1,0] (.int .i64 r) ⟨[(0,.rop [.int .i64 a0.kind,.int .i64 a0.value,.ro (List.map BC a0.data),.ro (List.map Core.ds a0.kids)] 0),(1,.int .i64 a1),(2,.int .i64 a2),(11,.int .i64 w)],[],[]⟩)∧
    (∀a0 a1 a2 y q r,CB n a0 a1 a2 y q=some r→BX Try.prog Try.f51 [1,1,1,1,1,0,1,0] (.int .i64 r) ⟨[(0,.rop [.int .i64 a0.kind,.int .i64 a0.value,.ro (List.map BC a0.data),.ro (List.map Core.ds a0.kids)] 0),(1,.int .i64 a1),(2,.int .i64 a2),(12,.int .i64 y),(13,.int .i64 q)],[],[]⟩):=by
 induction n with
 |zero=>exact⟨(fun _ _ _ _ h=>by rw [DV] at h; cases h),(fun _ _ _ _ _ h=>by rw [BK] at h; cases h),(fun _ _ _ _ _ h=>by rw [CA] at h; cases h),(fun _ _ _ _ _ _ h=>by rw [CB] at h; cases h)⟩
 | succ n ih=>
  obtain⟨ih0,ih1,ih2,ih3⟩:=ih
  refine⟨?_,?_,?_,?_⟩
  ·intro a0 a1 a2 r h
   rw [DV] at h
   refine acF Try.func51 mixed (h:=Z ?_)
   replace h:=AH h; obtain⟨g,j,h⟩:=h
   refine AK (L3 _ _ j) (Z ?_)
   refine AF ?_
   refine AB h (fun h=>Z ?_) (fun h=>Z ?_)
   ·exact BS (ih1 a0 a1 a2 true _ h) [] []
   ·refine AB h (fun h=>Z ?_) (fun h=>Z ?_)
    ·exact BS (ih1 a0 a1 a2 true _ h) [] []
    ·replace h:=AH h; obtain⟨k,b,h⟩:=h
     refine AK (Cq _ _ _ _ b) (Z ?_)
     refine AB h (fun h=>Z ?_) (fun h=>Z ?_)
     ·exact BS (ih1 a0 a1 a2 true _ h) [] []
     ·replace h:=AH h; obtain⟨d,c,h⟩:=h
      refine AK (Cq _ _ _ _ c) (Z ?_)
      refine AB h (fun h=>Z ?_) (fun h=>Z ?_)
      ·exact BS (ih1 a0 a1 a2 true _ h) [] []
      ·replace h:=AH h; obtain⟨e,i,h⟩:=h
       refine AK (L4 _ _ i) (Z ?_)
       exact BS (ih1 a0 a1 a2 (!e) _ h) [] []
  ·intro a0 a1 a2 u r h
   rw [BK] at h
   refine AP rfl rfl (Z ?_)
   refine AB h (fun h=>Z ?_) (fun h=>Z ?_)
   ·cases h
    simp only [go_sem]
   ·refine AF ?_
    exact loF (ih2 a0 a1 a2 0 _ h) [] []
  ·intro a0 a1 a2 w r h
   rw [CA] at h
   refine AP rfl rfl (Z ?_)
   refine A3 (Z ?_)
   refine AB h (fun h=>Z ?_) (fun h=>Z ?_)
   ·refine AF ?_
    replace h:=AH h; obtain⟨l,t,h⟩:=h
    refine Af t rfl (Z ?_)
    replace h:=AH h; obtain⟨s,o,h⟩:=h
    refine AK (Cq _ _ _ _ o) (Z ?_)
    refine AF ?_
    refine AB h (fun h=>Z ?_) (fun h=>Z ?_)
    ·cases h
     simp only [go_sem]
    ·refine AF ?_
     exact lpF (ih2 a0 a1 a2 (IntKind.i64.wrap (w+1)) _ h) [] []
   ·refine AF ?_
    exact loF (ih3 a0 a1 a2 1 0 _ h) [] []
  ·intro a0 a1 a2 y q r h
   rw [CB] at h
   refine AP rfl rfl (Z ?_)
   refine A3 (Z ?_)
   refine AB h (fun h=>Z ?_) (fun h=>Z ?_)
   ·refine AF ?_
    replace h:=AH h; obtain⟨z,u1,h⟩:=h
    refine Af u1 (Core.ds_len _) (Z ?_)
    replace h:=AH h; obtain⟨u2,u3,h⟩:=h
    refine AK (ih0 _ _ _ _ u3) (Z ?_)
    refine AF ?_
    refine AB h (fun h=>Z ?_) (fun h=>Z ?_)
    ·cases h
     simp only [go_sem]
    ·refine AF ?_
     refine AF ?_
     exact lpF (ih3 a0 a1 a2 (IntKind.i64.wrap (y+u2)) (IntKind.i64.wrap (q+1)) _ h) [] []
   ·refine AF ?_
    cases h
    simp only [go_sem]
theorem L5 (n:Nat):(∀a0 a1 a2 r,DV n a0 a1 a2=some r→AC Try.prog 51 [.rop (Core.avs a0) 0,.int .i64 a1,.int .i64 a2] (.int .i64 r)):=(Lg n).1
theorem P0 (a0 r) (h:Iy a0=some r):AC Try.prog 40 [.rop (Core.avs a0) 0] (.bool r):=by
 unfold Iy at h
 refine acF Try.func40 mixed (h:=Z ?_)
 replace h:=AH h; obtain⟨u,w,h⟩:=h
 refine AK (L5 fuel _ _ _ _ w) (Z ?_)
 refine AF ?_
 cases h
 simp only [go_sem]
theorem Ed (u:Bool) (r:Int) (h:DL u=some r):BX Try.prog Try.f52 [1,0,1] (.int .i64 r) ⟨[(20,.bool u)],[],[]⟩:=by
 unfold DL at h
 refine AP rfl rfl (Z ?_)
 refine AB h (fun h=>Z ?_) (fun h=>Z ?_)
 ·cases h
  simp only [go_sem]
 ·refine AF ?_
  cases h
  simp only [go_sem]
theorem L6 (a0 a1 r) (h:FZ a0 a1=some r):AC Try.prog 52 [.rop (Core.avs a0) 0,.int .i64 a1] (.int .i64 r):=by
 unfold FZ at h
 refine acF Try.func52 mixed (h:=Z ?_)
 refine AB h (fun h=>Z ?_) (fun h=>Z ?_)
 ·exact BS (Ed true _ h) [] []
 ·refine AB h (fun h=>Z ?_) (fun h=>Z ?_)
  ·exact BS (Ed (decide (a1=1)) _ h) [] []
  ·exact BS (Ed false _ h) [] []
theorem Lh (n:Nat):(∀a0 a1 r,DW n a0 a1=some r→AC Try.prog 41 [.rop (Core.avs a0) 0,.int .i64 a1] (.bool r))∧
    (∀a0 a1 u r,CC n a0 a1 u=some r→BX Try.prog Try.f41 [1,1,0,1,0] (.bool r) ⟨[(0,.rop [.int .i64 a0.kind,.int .i64 a0.value,.ro (List.map BC a0.data),.ro (List.map Core.ds a0.kids)] 0),(1,.int .i64 a1),(5,.int .i64 u)],[],[]⟩):=by
 induction n with
 |zero=>exact⟨(fun _ _ _ h=>by rw [DW] at h; cases h),(fun _ _ _ _ h=>by rw [CC] at h; cases h)⟩
 | succ n ih=>
  obtain⟨ih0,ih1⟩:=ih
  refine⟨?_,?_⟩
  ·intro a0 a1 r h
   rw [DW] at h
   refine acF Try.func41 mixed (h:=Z ?_)
   refine AB h (fun h=>Z ?_) (fun h=>Z ?_)
   ·cases h
    simp only [go_sem]
   ·refine AF ?_
    exact loF (ih1 a0 a1 0 _ h) [] []
  ·intro a0 a1 u r h
   rw [CC] at h
   refine AP rfl rfl (Z ?_)
   refine A3 (Z ?_)
   refine AB h (fun h=>Z ?_) (fun h=>Z ?_)
   ·refine AF ?_
    refine B3 [] .fin (by kernel_rfl) (Z ?_)
    replace h:=AH h; obtain⟨w,y,h⟩:=h
    refine Af y (Core.ds_len _) (Z ?_)
    replace h:=AH h; obtain⟨q,g,h⟩:=h
    refine AK (L6 _ _ _ g) (Z ?_)
    replace h:=AH h; obtain⟨j,k,h⟩:=h
    refine AK (ih0 _ _ _ k) (Z ?_)
    refine AF ?_
    refine AB h (fun h=>Z ?_) (fun h=>Z ?_)
    ·cases h
     simp only [go_sem]
    ·refine AF ?_
     exact lpF (ih1 a0 a1 (IntKind.i64.wrap (u+1)) _ h) [] []
   ·refine AF ?_
    cases h
    simp only [go_sem]
theorem L7 (n:Nat):(∀a0 a1 r,DW n a0 a1=some r→AC Try.prog 41 [.rop (Core.avs a0) 0,.int .i64 a1] (.bool r)):=(Lh n).1
theorem Li (a0 r) (h:Er a0=some r):AC Try.prog 26 [.rop (Core.avs a0) 0] (.bool r):=by
 unfold Er at h
 refine acF Try.func26 mixed (h:=Z ?_)
 replace h:=AH h; obtain⟨u,w,h⟩:=h
 refine AK (P0 _ _ w) (Z ?_)
 refine AB h (fun h=>Z ?_) (fun h=>Z ?_)
 ·replace h:=AH h; obtain⟨y,q,h⟩:=h
  refine AK (L7 fuel _ _ _ q) (Z ?_)
  refine AF ?_
  cases h
  simp only [go_sem]
 ·refine AF ?_
  cases h
  simp only [go_sem]
theorem L8 (n:Nat):(∀a0 a1 r,EA n a0 a1=some r→AC Try.prog 27 [.rop (Core.avs a0) 0,.int .i64 a1] (.bool r))∧
    (∀a0 a1 u r,DA n a0 a1 u=some r→BX Try.prog Try.f27 [1,0,1] (.bool r) ⟨[(0,.rop [.int .i64 a0.kind,.int .i64 a0.value,.ro (List.map BC a0.data),.ro (List.map Core.ds a0.kids)] 0),(1,.int .i64 a1),(19,.bool u)],[],[]⟩)∧
    (∀a0 a1 w r,Cb n a0 a1 w=some r→BX Try.prog Try.f27 [1,1,0,1,0] (.bool r) ⟨[(0,.rop [.int .i64 a0.kind,.int .i64 a0.value,.ro (List.map BC a0.data),.ro (List.map Core.ds a0.kids)] 0),(1,.int .i64 a1),(5,.int .i64 w)],[],[]⟩)∧
    (∀a0 a1 y r,Cc n a0 a1 y=some r→BX Try.prog Try.f27 [1,1,1,0,1,0] (.bool r) ⟨[(0,.rop [.int .i64 a0.kind,.int .i64 a0.value,.ro (List.map BC a0.data),.ro (List.map Core.ds a0.kids)] 0),(1,.int .i64 a1),(6,.int .i64 y)],[],[]⟩):=by
 induction n with
 |zero=>exact⟨(fun _ _ _ h=>by rw [EA] at h; cases h),(fun _ _ _ _ h=>by rw [DA] at h; cases h),(fun _ _ _ _ h=>by rw [Cb] at h; cases h),(fun _ _ _ _ h=>by rw [Cc] at h; cases h)⟩
 | succ n ih=>
  obtain⟨ih0,ih1,ih2,ih3⟩:=ih
  refine⟨?_,?_,?_,?_⟩
  ·intro a0 a1 r h
   rw [EA] at h
   refine acF Try.func27 mixed (h:=Z ?_)
   refine AB h (fun h=>Z ?_) (fun h=>Z ?_)
   ·exact BS (ih1 a0 a1 (decide (a1≤a0.value)) _ h) [] []
   ·exact BS (ih1 a0 a1 false _ h) [] []
  ·intro a0 a1 u r h
   rw [DA] at h
   refine AP rfl rfl (Z ?_)
   refine AB h (fun h=>Z ?_) (fun h=>Z ?_)
   ·cases h
    simp only [go_sem]
   ·refine AF ?_
    exact loF (ih2 a0 a1 0 _ h) [] []
  ·intro a0 a1 w r h
   rw [Cb] at h
   refine AP rfl rfl (Z ?_)
   refine A3 (Z ?_)
   refine AB h (fun h=>Z ?_) (fun h=>Z ?_)
   ·refine AF ?_
    replace h:=AH h; obtain⟨q,g,h⟩:=h
    refine Af g rfl (Z ?_)
    refine AB h (fun h=>Z ?_) (fun h=>Z ?_)
    ·cases h
     simp only [go_sem]
    ·refine AF ?_
     exact lpF (ih2 a0 a1 (IntKind.i64.wrap (w+1)) _ h) [] []
   ·refine AF ?_
    exact loF (ih3 a0 a1 0 _ h) [] []
  ·intro a0 a1 y r h
   rw [Cc] at h
   refine AP rfl rfl (Z ?_)
   refine A3 (Z ?_)
   refine AB h (fun h=>Z ?_) (fun h=>Z ?_)
   ·refine AF ?_
    replace h:=AH h; obtain⟨j,k,h⟩:=h
    refine Af k (Core.ds_len _) (Z ?_)
    replace h:=AH h; obtain⟨b,d,h⟩:=h
    refine AK (ih0 _ _ _ d) (Z ?_)
    refine AF ?_
    refine AB h (fun h=>Z ?_) (fun h=>Z ?_)
    ·cases h
     simp only [go_sem]
    ·refine AF ?_
     exact lpF (ih3 a0 a1 (IntKind.i64.wrap (y+1)) _ h) [] []
   ·refine AF ?_
    cases h
    simp only [go_sem]
theorem Nb (n:Nat):(∀a0 a1 r,EA n a0 a1=some r→AC Try.prog 27 [.rop (Core.avs a0) 0,.int .i64 a1] (.bool r)):=(L8 n).1
theorem JY (n:Nat):(∀a0 u r,B8 n a0 u=some r→BX Try.prog Try.f16 [1,1,0,1,0] (.bool r) ⟨[(0,.rop [.ro (List.map Core.ds a0.defs)] 0),(3,.int .i64 u)],[],[]⟩)∧
    (∀a0 u w r,DB n a0 u w=some r→BX Try.prog Try.f16 [1,1,0,1,0,0,1,0,0,1] (.bool r) ⟨[(0,.rop [.ro (List.map Core.ds a0.defs)] 0),(3,.int .i64 u),(42,.bool w)],[],[]⟩):=by
 induction n with
 |zero=>exact⟨(fun _ _ _ h=>by rw [B8] at h; cases h),(fun _ _ _ _ h=>by rw [DB] at h; cases h)⟩
 | succ n ih=>
  obtain⟨ih0,ih1⟩:=ih
  refine⟨?_,?_⟩
  ·intro a0 u r h
   rw [B8] at h
   refine AP rfl rfl (Z ?_)
   refine A3 (Z ?_)
   refine AB h (fun h=>Z ?_) (fun h=>Z ?_)
   ·refine AF ?_
    refine B3 [] .fin (by kernel_rfl) (Z ?_)
    replace h:=AH h; obtain⟨y,q,h⟩:=h
    refine Af q (Core.ds_len _) (Z ?_)
    replace h:=AH h; obtain⟨g,j,h⟩:=h
    refine AK (Li _ _ j) (Z ?_)
    refine AB h (fun h=>Z ?_) (fun h=>Z ?_)
    ·exact BS (ih1 a0 u true _ h) [] []
    ·replace h:=AH h; obtain⟨k,b,h⟩:=h
     refine Af b (Core.ds_len _) (Z ?_)
     replace h:=AH h; obtain⟨d,c,h⟩:=h
     refine AK (Nb fuel _ _ _ c) (Z ?_)
     exact BS (ih1 a0 u (!d) _ h) [] []
   ·refine AF ?_
    cases h
    simp only [go_sem]
  ·intro a0 u w r h
   rw [DB] at h
   refine AP rfl rfl (Z ?_)
   refine AB h (fun h=>Z ?_) (fun h=>Z ?_)
   ·cases h
    simp only [go_sem]
   ·refine AF ?_
    exact lpF (ih0 a0 (IntKind.i64.wrap (u+1)) _ h) [] []
theorem J4 (n:Nat):(∀a0 u r,B8 n a0 u=some r→BX Try.prog Try.f16 [1,1,0,1,0] (.bool r) ⟨[(0,.rop [.ro (List.map Core.ds a0.defs)] 0),(3,.int .i64 u)],[],[]⟩):=(JY n).1
theorem Nc (a0 r) (h:GA a0=some r):AC Try.prog 16 [.rop (Book.avs a0) 0] (.bool r):=by
 unfold GA at h
 refine acF Try.func16 mixed (h:=Z ?_)
 replace h:=AH h; obtain⟨u,w,h⟩:=h
 refine AK (Cq _ _ _ _ w) (Z ?_)
 refine AF ?_
 refine AB h (fun h=>Z ?_) (fun h=>Z ?_)
 ·cases h
  simp only [go_sem]
 ·refine AF ?_
  exact loF (J4 fuel a0 0 _ h) [] []
theorem JZ (n:Nat):(∀a0 a1 u r,CD n a0 a1 u=some r→BX Try.prog Try.f50 [1,1,0,1,0] (.bool r) ⟨[(0,.ro (List.map BC a0)),(1,.ro (List.map BC a1)),(5,.int .i64 u)],[],[]⟩):=by
 induction n with
 |zero=>exact((fun _ _ _ _ h=>by rw [CD] at h; cases h))
 | succ n ih=>
  have ih0:=ih
  ·intro a0 a1 u r h
   rw [CD] at h
   refine AP rfl rfl (Z ?_)
   refine A3 (Z ?_)
   refine AB h (fun h=>Z ?_) (fun h=>Z ?_)
   ·refine AF ?_
    refine B3 [] .fin (by kernel_rfl) (Z ?_)
    replace h:=AH h; obtain⟨w,y,h⟩:=h
    refine Af y rfl (Z ?_)
    replace h:=AH h; obtain⟨q,g,h⟩:=h
    refine Af g rfl (Z ?_)
    refine AF ?_
    refine AB h (fun h=>Z ?_) (fun h=>Z ?_)
    ·cases h
     simp only [go_sem]
    ·refine AF ?_
     exact lpF (ih0 a0 a1 (IntKind.i64.wrap (u+1)) _ h) [] []
   ·refine AF ?_
    cases h
    simp only [go_sem]
theorem L9 (a0 a1 r) (h:Fa a0 a1=some r):AC Try.prog 50 [.ro (List.map BC a0),.ro (List.map BC a1)] (.bool r):=by
 unfold Fa at h
 refine acF Try.func50 mixed (h:=Z ?_)
 refine AB h (fun h=>Z ?_) (fun h=>Z ?_)
 ·cases h
  simp only [go_sem]
 ·refine AF ?_
  exact loF (JZ fuel a0 a1 0 _ h) [] []
theorem Nd (n:Nat):(∀a0 a1 r,Fb n a0 a1=some r→AC Try.prog 36 [.agg (Core.avs a0),.agg (Core.avs a1)] (.bool r))∧
    (∀a0 a1 r,DM n a0 a1=some r→AC Try.prog 20 [.ro (List.map Core.ds a0),.ro (List.map Core.ds a1)] (.bool r))∧
    (∀a0 a1 u r,Cd n a0 a1 u=some r→BX Try.prog Try.f20 [1,1,0,1,0] (.bool r) ⟨[(0,.ro (List.map Core.ds a0)),(1,.ro (List.map Core.ds a1)),(5,.int .i64 u)],[],[]⟩):=by
 induction n with
 |zero=>exact⟨(fun _ _ _ h=>by rw [Fb] at h; cases h),(fun _ _ _ h=>by rw [DM] at h; cases h),(fun _ _ _ _ h=>by rw [Cd] at h; cases h)⟩
 | succ n ih=>
  obtain⟨ih0,ih1,ih2⟩:=ih
  refine⟨?_,?_,?_⟩
  ·intro a0 a1 r h
   rw [Fb] at h
   refine acF Try.func36 mixed (h:=Z ?_)
   refine GV (fun w=>?_) (fun w=>?_)
   ·replace h:=ifT (c:=(!decide (a0.kind=a1.kind))) w h
    try simp only [go_sem]
    cases h
    simp only [go_sem]
   ·replace h:=ifF (c:=(!decide (a0.kind=a1.kind))) w h
    try simp only [go_sem]
    refine AF ?_
    refine GV (fun y=>?_) (fun y=>?_)
    ·replace h:=ifT (c:=(!decide (a0.value=a1.value))) y h
     try simp only [go_sem]
     cases h
     simp only [go_sem]
    ·replace h:=ifF (c:=(!decide (a0.value=a1.value))) y h
     try simp only [go_sem]
     refine AF ?_
     replace h:=AH h; obtain⟨q,g,h⟩:=h
     refine AK (L9 _ _ _ g) (Z ?_)
     refine AF ?_
     refine GV (fun j=>?_) (fun j=>?_)
     ·replace h:=ifT (c:=(!q)) j h
      try simp only [go_sem]
      cases h
      simp only [go_sem]
     ·replace h:=ifF (c:=(!q)) j h
      try simp only [go_sem]
      refine AF ?_
      replace h:=AH h; obtain⟨k,b,h⟩:=h
      refine AK (ih1 _ _ _ b) (Z ?_)
      refine AF ?_
      refine AB h (fun h=>Z ?_) (fun h=>Z ?_)
      ·cases h
       simp only [go_sem]
      ·refine AF ?_
       cases h
       simp only [go_sem]
  ·intro a0 a1 r h
   rw [DM] at h
   refine acF Try.func20 mixed (h:=Z ?_)
   refine GV (fun w=>?_) (fun w=>?_)
   ·replace h:=ifT (c:=(!decide (((List.length a0:Nat):Int)=((List.length a1:Nat):Int)))) w h
    try simp only [go_sem]
    cases h
    simp only [go_sem]
   ·replace h:=ifF (c:=(!decide (((List.length a0:Nat):Int)=((List.length a1:Nat):Int)))) w h
    try simp only [go_sem]
    refine AF ?_
    exact loF (ih2 a0 a1 0 _ h) [] []
  ·intro a0 a1 u r h
   rw [Cd] at h
   refine AP rfl rfl (Z ?_)
   refine A3 (Z ?_)
   refine GV (fun y=>?_) (fun y=>?_)
   ·replace h:=ifT (c:=(decide (u<((List.length a0:Nat):Int)))) y h
    try simp only [go_sem]
    refine AF ?_
    refine B3 [] .fin (by kernel_rfl) (Z ?_)
    replace h:=AH h; obtain⟨d,e,h⟩:=h
    refine Af e (Core.ds_len _) (Z ?_)
    replace h:=AH h; obtain⟨i,l,h⟩:=h
    refine Af l (Core.ds_len _) (Z ?_)
    replace h:=AH h; obtain⟨t,s,h⟩:=h
    refine AK (ih0 _ _ _ s) (Z ?_)
    refine AF ?_
    refine GV (fun j=>?_) (fun j=>?_)
    ·replace h:=ifT (c:=(!t)) j h
     try simp only [go_sem]
     cases h
     simp only [go_sem]
    ·replace h:=ifF (c:=(!t)) j h
     try simp only [go_sem]
     refine AF ?_
     exact lpF (ih2 a0 a1 (IntKind.i64.wrap (u+1)) _ h) [] []
   ·replace h:=ifF (c:=(decide (u<((List.length a0:Nat):Int)))) y h
    try simp only [go_sem]
    refine AF ?_
    cases h
    simp only [go_sem]
theorem Nf (n:Nat):(∀a0 a1 r,DM n a0 a1=some r→AC Try.prog 20 [.ro (List.map Core.ds a0),.ro (List.map Core.ds a1)] (.bool r)):=(Nd n).2.1
theorem HU (a0 a1 r) (h:Es a0 a1=some r):AC Try.prog 7 [.agg (Book.avs a0),.agg (Book.avs a1)] (.bool r):=by
 unfold Es at h
 refine acF Try.func7 mixed (h:=Z ?_)
 replace h:=AH h; obtain⟨u,w,h⟩:=h
 refine AK (Nf fuel _ _ _ w) (Z ?_)
 refine AF ?_
 refine AB h (fun h=>Z ?_) (fun h=>Z ?_)
 ·cases h
  simp only [go_sem]
 ·refine AF ?_
  cases h
  simp only [go_sem]
end Go.Proofs.Ytijdanbelnmmlaa.Ab
