/-
 The functions do what their models say. Printed by wip/ab/gen.py.
-/
import Derived.Test.YtgigfdghecdlgaaMod
import Derived.Test.YtgigfdghecdlgaaTi2
namespace Go.Proofs.Ytgigfdghecdlgaa.Ab
set_option linter.unusedVariables false
set_option linter.unusedSimpArgs false
set_option maxRecDepth 20000
set_option maxHeartbeats 4000000
open Go.RowKit
theorem PY (a0 r) (h:IR a0=some r):AC Try.prog 79 [.int .i64 a0] (.bool r):=by
 unfold IR at h
 refine acF Try.func79 mixed (h:=Z ?_)
 refine AD h (fun h=>Z ?_) (fun h=>Z ?_)
 ·refine AF ?_
  cases h
  simp only [go_sem]
 ·refine AF ?_
  cases h
  simp only [go_sem]
theorem JT (a0 r) (h:Dj a0=some r):AC Try.prog 80 [.int .i64 a0] (.bool r):=by
 unfold Dj at h
 refine acF Try.func80 mixed (h:=Z ?_)
 refine AD h (fun h=>Z ?_) (fun h=>Z ?_)
 ·refine AF ?_
  cases h
  simp only [go_sem]
 ·refine AF ?_
  cases h
  simp only [go_sem]
theorem GF (a0 r) (h:C2 a0=some r):AC Try.prog 81 [.int .i64 a0] (.bool r):=by
 unfold C2 at h
 refine acF Try.func81 mixed (h:=Z ?_)
 refine AD h (fun h=>Z ?_) (fun h=>Z ?_)
 ·refine AF ?_
  cases h
  simp only [go_sem]
 ·refine AF ?_
  cases h
  simp only [go_sem]
theorem FV (n:Nat):(∀ (a0:List Int) (u:Int) (f1:(Int→Option Bool)) (g1:FuncId) (c1:List AV) (s1:Still c1) (h1:∀ (y0:Int) (q:Bool),f1 y0=some q→AC Try.prog g1 (.int .i64 y0::c1) (.bool q)) (r:Int),Ap n a0 u f1=some r→BY Try.prog Try.f84 [1,0,1,0] (.int .i64 r) ⟨[(0,.ro (List.map AM a0)),(1,.fn g1 c1),(7,.int .i64 ((List.length a0:Nat):Int)),(8,.int .i64 u)],[],[]⟩):=by
 induction n with
 |zero=>exact((fun _ _ _ _ _ _ _ _ h=>by rw [Ap] at h; cases h))
 | succ n ih=>
  have ih0:=ih
  ·intro a0 u f1 g1 c1 s1 h1 r h
   rw [Ap] at h
   refine AR rfl rfl ?_
   try simp only [go_sem,s1.k,s1.r,s1.c,s1.p]
   refine A1 ?_
   try simp only [go_sem,s1.k,s1.r,s1.c,s1.p]
   refine AD h (fun h=>?_) (fun h=>?_)
   ·try simp only [go_sem,s1.k,s1.r,s1.c,s1.p]
    refine CY ?_
    try simp only [go_sem,s1.k,s1.r,s1.c,s1.p]
    replace h:=AH h; obtain⟨w,y,h⟩:=h
    refine AY y rfl ?_
    try simp only [go_sem,s1.k,s1.r,s1.c,s1.p]
    replace h:=AH h; obtain⟨g,j,h⟩:=h
    refine AK (h1 _ _ j) ?_
    try simp only [go_sem,s1.k,s1.r,s1.c,s1.p]
    refine CY ?_
    try simp only [go_sem,s1.k,s1.r,s1.c,s1.p]
    refine AD h (fun h=>?_) (fun h=>?_)
    ·try simp only [go_sem,s1.k,s1.r,s1.c,s1.p]
     cases h
     simp only [go_sem,s1.k,s1.r,s1.c,s1.p]
    ·try simp only [go_sem,s1.k,s1.r,s1.c,s1.p]
     refine CY ?_
     try simp only [go_sem,s1.k,s1.r,s1.c,s1.p]
     refine Nl (EB rfl rfl (ih0 a0 (IntKind.i64.wrap (u+1)) f1 g1 c1 s1 h1 _ h):) (.one ⟨_,.done _,[],[],?_⟩)
     try simp only [go_sem,s1.k,s1.r,s1.c,s1.p]
   ·try simp only [go_sem,s1.k,s1.r,s1.c,s1.p]
    refine CY ?_
    try simp only [go_sem,s1.k,s1.r,s1.c,s1.p]
    cases h
    simp only [go_sem,s1.k,s1.r,s1.c,s1.p]
theorem GK (a0:List Int) (f1:(Int→Option Bool)) (g1:FuncId) (c1:List AV) (s1:Still c1) (h1:∀ (y0:Int) (q:Bool),f1 y0=some q→AC Try.prog g1 (.int .i64 y0::c1) (.bool q)) (r:Int) (h:CZ a0 f1=some r):AC Try.prog 84 [.ro (List.map AM a0),.fn g1 c1] (.int .i64 r):=by
 unfold CZ at h
 refine acF Try.func84 mixed (h:=?_)
 try simp only [go_sem,s1.k,s1.r,s1.c,s1.p]
 refine EU (EB rfl rfl (FV fuel a0 0 f1 g1 c1 s1 h1 _ h):) (.one ⟨_,.done _,[],[],?_⟩)
 try simp only [go_sem,s1.k,s1.r,s1.c,s1.p]
theorem FW (a0:List Int) (f1:(Int→Option Bool)) (g1:FuncId) (c1:List AV) (s1:Still c1) (h1:∀ (y0:Int) (q:Bool),f1 y0=some q→AC Try.prog g1 (.int .i64 y0::c1) (.bool q)) (r:Bool) (h:Ay a0 f1=some r):AC Try.prog 82 [.ro (List.map AM a0),.fn g1 c1] (.bool r):=by
 unfold Ay at h
 refine acF Try.func82 mixed (h:=?_)
 try simp only [go_sem,s1.k,s1.r,s1.c,s1.p]
 replace h:=AH h; obtain⟨u,w,h⟩:=h
 refine AK (GK _ _ g1 c1 s1 h1 _ w) ?_
 try simp only [go_sem,s1.k,s1.r,s1.c,s1.p]
 refine CY ?_
 try simp only [go_sem,s1.k,s1.r,s1.c,s1.p]
 cases h
 simp only [go_sem,s1.k,s1.r,s1.c,s1.p]
theorem Gw (a0 r) (h:B6 a0=some r):AC Try.prog 83 [.int .i64 a0] (.bool r):=by
 unfold B6 at h
 refine acF Try.func83 mixed (h:=Z ?_)
 replace h:=AH h; obtain⟨u,w,h⟩:=h
 refine AK (GF _ _ w) (Z ?_)
 refine AF ?_
 cases h
 simp only [go_sem]
theorem AT (a0:Core) (u:Bool) (w:Bool) (y:Int) (r:Bool) (h:AP a0 u w y=some r):BY Try.prog Try.f76 [1,1,1,1,1] (.bool r) ⟨[(1,.box 1000002500 0),(3,.int .i64 ((List.length a0.kids:Nat):Int)),(4,.bool u),(5,.bool w),(6,.int .i64 y)],[],[(1000002500,some [.int .i64 a0.kind,.int .i64 a0.value,.ro (List.map AM a0.data),.ro (List.map Core.ds a0.kids)])]⟩:=by
 unfold AP at h
 refine AR rfl rfl (Z ?_)
 refine AD h (fun h=>Z ?_) (fun h=>Z ?_)
 ·refine AD h (fun h=>Z ?_) (fun h=>Z ?_)
  ·refine AD h (fun h=>Z ?_) (fun h=>Z ?_)
   ·replace h:=AH h; obtain⟨g,j,h⟩:=h
    refine AK (FW _ _ 83 [] (Still.of rfl) (fun y0 q hq=>Gw y0  q hq) _ j) (Z ?_)
    refine AF ?_
    cases h
    simp only [go_sem]
   ·refine AF ?_
    cases h
    simp only [go_sem]
  ·refine AF ?_
   cases h
   simp only [go_sem]
 ·refine AF ?_
  cases h
  simp only [go_sem]
theorem Dy (a0:Core) (u:Bool) (r:Bool) (h:Bu a0 u=some r):BY Try.prog Try.f76 [1,1,1,1,0,1,0,1,1,1,1,1,1,1,1,1] (.bool r) ⟨[(1,.box 1000001500 0),(3,.int .i64 ((List.length a0.kids:Nat):Int)),(5,.bool (decide (((List.length a0.data:Nat):Int)=0))),(6,.int .i64 0),(15,.int .i64 a0.kind),(42,.bool u)],[],[(1000001500,some [.int .i64 a0.kind,.int .i64 a0.value,.ro (List.map AM a0.data),.ro (List.map Core.ds a0.kids)])]⟩:=by
 unfold Bu at h
 refine AR rfl rfl (Z ?_)
 refine AD h (fun h=>Z ?_) (fun h=>Z ?_)
 ·exact A4 (AT a0 (decide (a0.value=0)) (decide (((List.length a0.data:Nat):Int)=0)) 2 _ h) [] [(1000002500,1000001500)]
 ·refine AD h (fun h=>Z ?_) (fun h=>Z ?_)
  ·refine AD h (fun h=>Z ?_) (fun h=>Z ?_)
   ·refine AD h (fun h=>Z ?_) (fun h=>Z ?_)
    ·refine AD h (fun h=>Z ?_) (fun h=>Z ?_)
     ·refine AF ?_
      cases h
      simp only [go_sem]
     ·refine AF ?_
      cases h
      simp only [go_sem]
    ·refine AF ?_
     cases h
     simp only [go_sem]
   ·refine AF ?_
    cases h
    simp only [go_sem]
  ·refine AD h (fun h=>Z ?_) (fun h=>Z ?_)
   ·refine CO [] .fin (by kernel_rfl) (Z ?_)
    refine AD h (fun h=>Z ?_) (fun h=>Z ?_)
    ·exact A4 (AT a0 (decide (a0.value=0)) (decide (((List.length a0.data:Nat):Int)≤4)) 1 _ h) [] [(1000002500,1000001500)]
    ·exact A4 (AT a0 (decide (a0.value=0)) false 1 _ h) [] [(1000002500,1000001500)]
   ·refine AD h (fun h=>Z ?_) (fun h=>Z ?_)
    ·refine CO [] .fin (by kernel_rfl) (Z ?_)
     exact A4 (AT a0 (decide (a0.value=0)) (decide (((List.length a0.data:Nat):Int)=2)) 1 _ h) [] [(1000002500,1000001500)]
    ·refine AD h (fun h=>Z ?_) (fun h=>Z ?_)
     ·replace h:=AH h; obtain⟨w,y,h⟩:=h
      refine AK (GF _ _ y) (Z ?_)
      exact A4 (AT a0 w (decide (((List.length a0.data:Nat):Int)=0)) 0 _ h) [] [(1000002500,1000001500)]
     ·cases h
      simp only [go_sem]
theorem Dz (a0:Core) (u:Bool) (r:Bool) (h:Bv a0 u=some r):BY Try.prog Try.f76 [1,1,1,1,0,1,0,1,1,1,1,1,1,1] (.bool r) ⟨[(1,.box 1000000500 0),(3,.int .i64 ((List.length a0.kids:Nat):Int)),(5,.bool (decide (((List.length a0.data:Nat):Int)=0))),(6,.int .i64 0),(15,.int .i64 a0.kind),(36,.bool u)],[],[(1000000500,some [.int .i64 a0.kind,.int .i64 a0.value,.ro (List.map AM a0.data),.ro (List.map Core.ds a0.kids)])]⟩:=by
 unfold Bv at h
 refine AR rfl rfl (Z ?_)
 refine AD h (fun h=>Z ?_) (fun h=>Z ?_)
 ·exact A4 (AT a0 (decide (a0.value=0)) (decide (((List.length a0.data:Nat):Int)=0)) 1 _ h) [] [(1000002500,1000000500)]
 ·refine AD h (fun h=>Z ?_) (fun h=>Z ?_)
  ·exact A4 (Dy a0 (decide (a0.kind=5)) _ h) [] [(1000001500,1000000500)]
  ·exact A4 (Dy a0 (decide (a0.kind=7)) _ h) [] [(1000001500,1000000500)]
theorem Hy (a0 r) (h:Cd a0=some r):AC Try.prog 76 [.agg (Core.avs a0)] (.bool r):=by
 unfold Cd at h
 refine acF Try.func76 mixed (h:=Z ?_)
 refine CO [] .fin (by kernel_rfl) (Z ?_)
 refine AF ?_
 refine AD h (fun h=>Z ?_) (fun h=>Z ?_)
 ·refine AD h (fun h=>Z ?_) (fun h=>Z ?_)
  ·exact A4 (AT a0 (decide (a0.value≤255)) (decide (((List.length a0.data:Nat):Int)=0)) 0 _ h) [] [(1000002500,1000)]
  ·exact A4 (AT a0 false (decide (((List.length a0.data:Nat):Int)=0)) 0 _ h) [] [(1000002500,1000)]
 ·refine AD h (fun h=>Z ?_) (fun h=>Z ?_)
  ·replace h:=AH h; obtain⟨u,w,h⟩:=h
   refine AK (PY _ _ w) (Z ?_)
   exact A4 (AT a0 u (decide (((List.length a0.data:Nat):Int)=0)) 0 _ h) [] [(1000002500,1000)]
  ·refine AD h (fun h=>Z ?_) (fun h=>Z ?_)
   ·replace h:=AH h; obtain⟨y,q,h⟩:=h
    refine AK (JT _ _ q) (Z ?_)
    exact A4 (AT a0 y (decide (((List.length a0.data:Nat):Int)=0)) 2 _ h) [] [(1000002500,1000)]
   ·refine AD h (fun h=>Z ?_) (fun h=>Z ?_)
    ·exact A4 (Dz a0 (decide (a0.kind=4)) _ h) [] [(1000000500,1000)]
    ·exact A4 (Dz a0 (decide (a0.kind=6)) _ h) [] [(1000000500,1000)]
theorem JU (n:Nat):(∀a0 r,CU n a0=some r→AC Try.prog 68 [.agg (Core.avs a0)] (.tup [.int .i64 r.1,.int .i64 r.2.1,.bool r.2.2]))∧
    (∀a0 u w y r,BQ n a0 u w y=some r→BY Try.prog Try.f68 [1,1,1,0,1,0] (.tup [.int .i64 r.1,.int .i64 r.2.1,.bool r.2.2]) ⟨[(2,.int .i64 u),(3,.int .i64 w),(14,.ro (List.map Core.ds a0.kids)),(15,.int .i64 ((List.length a0.kids:Nat):Int)),(16,.int .i64 y)],[],[]⟩):=by
 induction n with
 |zero=>exact⟨(fun _ _ h=>by rw [CU] at h; cases h),(fun _ _ _ _ _ h=>by rw [BQ] at h; cases h)⟩
 | succ n ih=>
  obtain⟨ih0,ih1⟩:=ih
  refine⟨?_,?_⟩
  ·intro a0 r h
   rw [CU] at h
   refine acF Try.func68 mixed (h:=Z ?_)
   replace h:=AH h; obtain⟨q,g,h⟩:=h
   refine AK (Hy _ _ g) (Z ?_)
   refine AF ?_
   refine AD h (fun h=>Z ?_) (fun h=>Z ?_)
   ·cases h
    simp only [go_sem]
   ·refine AF ?_
    exact loF (ih1 a0 1 1 0 _ h) [] []
  ·intro a0 u w y r h
   rw [BQ] at h
   refine AR rfl rfl (Z ?_)
   refine A1 (Z ?_)
   refine AD h (fun h=>Z ?_) (fun h=>Z ?_)
   ·refine AF ?_
    replace h:=AH h; obtain⟨j,k,h⟩:=h
    refine AY k (Core.ds_len _) (Z ?_)
    refine AF ?_
    replace h:=AH h; obtain⟨b,d,h⟩:=h
    refine AK (ih0 _ _ d) (Z ?_)
    refine AF ?_
    refine AD h (fun h=>Z ?_) (fun h=>Z ?_)
    ·cases h
     simp only [go_sem]
    ·refine AF ?_
     refine AF ?_
     exact lpF (ih1 a0 (if u<(IntKind.i64.wrap (b.1 +1)) then (IntKind.i64.wrap (b.1 +1)) else u) (IntKind.i64.wrap (w+b.2.1)) (IntKind.i64.wrap (y+1)) _ h) [] []
   ·refine AF ?_
    cases h
    simp only [go_sem]
theorem Ku (n:Nat):(∀a0 r,CU n a0=some r→AC Try.prog 68 [.agg (Core.avs a0)] (.tup [.int .i64 r.1,.int .i64 r.2.1,.bool r.2.2])):=(JU n).1
theorem I2 (n:Nat):(∀a0 r,Bg n a0=some r→AC Try.prog 63 [.agg (Core.avs a0)] (.tup [.int .i64 r.1,.int .i64 r.2]))∧
    (∀a0 u w y r,BH n a0 u w y=some r→BY Try.prog Try.f63 [1,1,0,1,0] (.tup [.int .i64 r.1,.int .i64 r.2]) ⟨[(2,.int .i64 u),(3,.int .i64 w),(9,.ro (List.map Core.ds a0.kids)),(10,.int .i64 ((List.length a0.kids:Nat):Int)),(11,.int .i64 y)],[],[]⟩):=by
 induction n with
 |zero=>exact⟨(fun _ _ h=>by rw [Bg] at h; cases h),(fun _ _ _ _ _ h=>by rw [BH] at h; cases h)⟩
 | succ n ih=>
  obtain⟨ih0,ih1⟩:=ih
  refine⟨?_,?_⟩
  ·intro a0 r h
   rw [Bg] at h
   refine acF Try.func63 mixed (h:=Z ?_)
   exact loF (ih1 a0 1 1 0 _ h) [] []
  ·intro a0 u w y r h
   rw [BH] at h
   refine AR rfl rfl (Z ?_)
   refine A1 (Z ?_)
   refine AD h (fun h=>Z ?_) (fun h=>Z ?_)
   ·refine AF ?_
    replace h:=AH h; obtain⟨q,g,h⟩:=h
    refine AY g (Core.ds_len _) (Z ?_)
    refine AF ?_
    replace h:=AH h; obtain⟨j,k,h⟩:=h
    refine AK (ih0 _ _ k) (Z ?_)
    refine AF ?_
    refine AF ?_
    exact lpF (ih1 a0 (if u<(IntKind.i64.wrap (j.1 +1)) then (IntKind.i64.wrap (j.1 +1)) else u) (IntKind.i64.wrap (w+j.2)) (IntKind.i64.wrap (y+1)) _ h) [] []
   ·refine AF ?_
    cases h
    simp only [go_sem]
theorem GG (n:Nat):(∀a0 r,Bg n a0=some r→AC Try.prog 63 [.agg (Core.avs a0)] (.tup [.int .i64 r.1,.int .i64 r.2])):=(I2 n).1
theorem LE (a0 r) (h:Ey a0=some r):AC Try.prog 69 [.agg (Core.avs a0)] (.bool r):=by
 unfold Ey at h
 refine acF Try.func69 mixed (h:=Z ?_)
 replace h:=AH h; obtain⟨u,w,h⟩:=h
 refine AK (GG fuel _ _ w) (Z ?_)
 refine AF ?_
 refine AD h (fun h=>Z ?_) (fun h=>Z ?_)
 ·refine AF ?_
  cases h
  simp only [go_sem]
 ·refine AF ?_
  cases h
  simp only [go_sem]
theorem FD (a0 r) (h:Cs a0=some r):AC Try.prog 59 [.agg (Core.avs a0)] (.bool r):=by
 unfold Cs at h
 refine acF Try.func59 mixed (h:=Z ?_)
 replace h:=AH h; obtain⟨u,w,h⟩:=h
 refine AK (Ku fuel _ _ w) (Z ?_)
 refine AF ?_
 refine AD h (fun h=>Z ?_) (fun h=>Z ?_)
 ·replace h:=AH h; obtain⟨y,q,h⟩:=h
  refine AK (LE _ _ q) (Z ?_)
  refine AF ?_
  cases h
  simp only [go_sem]
 ·refine AF ?_
  cases h
  simp only [go_sem]
theorem Hz (a0 r) (h:HD a0=some r):AC Try.prog 77 [.bool a0] (.int .i64 r):=by
 unfold HD at h
 refine acF Try.func77 mixed (h:=Z ?_)
 refine AD h (fun h=>Z ?_) (fun h=>Z ?_)
 ·cases h
  simp only [go_sem]
 ·refine AF ?_
  cases h
  simp only [go_sem]
theorem JV (a0 a1 r) (h:Dk a0 a1=some r):AC Try.prog 70 [.agg (Core.avs a0),.int .i64 a1] (.int .i64 r):=by
 unfold Dk at h
 refine acF Try.func70 mixed (h:=Z ?_)
 refine AD h (fun h=>Z ?_) (fun h=>Z ?_)
 ·replace h:=AH h; obtain⟨u,w,h⟩:=h
  refine AK (Hz _ _ w) (Z ?_)
  refine AF ?_
  cases h
  simp only [go_sem]
 ·refine AD h (fun h=>Z ?_) (fun h=>Z ?_)
  ·replace h:=AH h; obtain⟨u,w,h⟩:=h
   refine AK (Hz _ _ w) (Z ?_)
   refine AF ?_
   cases h
   simp only [go_sem]
  ·replace h:=AH h; obtain⟨u,w,h⟩:=h
   refine AK (Hz _ _ w) (Z ?_)
   refine AF ?_
   cases h
   simp only [go_sem]
theorem Ia (n:Nat):(∀a0 a1 r,Bi n a0 a1=some r→AC Try.prog 60 [.agg (Core.avs a0),.int .i64 a1] (.bool r))∧
    (∀a0 a1 u r,BL n a0 a1 u=some r→BY Try.prog Try.f60 [1,0,1] (.bool r) ⟨[(1,.int .i64 a1),(2,.box 1000000500 0),(15,.bool u)],[],[(1000000500,some [.int .i64 a0.kind,.int .i64 a0.value,.ro (List.map AM a0.data),.ro (List.map Core.ds a0.kids)])]⟩)∧
    (∀a0 a1 w r,A7 n a0 a1 w=some r→BY Try.prog Try.f60 [1,1,0,1,0] (.bool r) ⟨[(1,.int .i64 a1),(2,.box 1000002500 0),(17,.ro (List.map Core.ds a0.kids)),(18,.int .i64 ((List.length a0.kids:Nat):Int)),(19,.int .i64 w)],[],[(1000002500,some [.int .i64 a0.kind,.int .i64 a0.value,.ro (List.map AM a0.data),.ro (List.map Core.ds a0.kids)])]⟩):=by
 induction n with
 |zero=>exact⟨(fun _ _ _ h=>by rw [Bi] at h; cases h),(fun _ _ _ _ h=>by rw [BL] at h; cases h),(fun _ _ _ _ h=>by rw [A7] at h; cases h)⟩
 | succ n ih=>
  obtain⟨ih0,ih1,ih2⟩:=ih
  refine⟨?_,?_,?_⟩
  ·intro a0 a1 r h
   rw [Bi] at h
   refine acF Try.func60 mixed (h:=Z ?_)
   refine AD h (fun h=>Z ?_) (fun h=>Z ?_)
   ·exact A4 (ih1 a0 a1 (decide (a1≤a0.value)) _ h) [] [(1000000500,1000)]
   ·exact A4 (ih1 a0 a1 false _ h) [] [(1000000500,1000)]
  ·intro a0 a1 u r h
   rw [BL] at h
   refine AR rfl rfl (Z ?_)
   refine AD h (fun h=>Z ?_) (fun h=>Z ?_)
   ·cases h
    simp only [go_sem]
   ·refine AF ?_
    exact loF (ih2 a0 a1 0 _ h) [] [(1000002500,1000000500)]
  ·intro a0 a1 w r h
   rw [A7] at h
   refine AR rfl rfl (Z ?_)
   refine A1 (Z ?_)
   refine AD h (fun h=>Z ?_) (fun h=>Z ?_)
   ·refine AF ?_
    replace h:=AH h; obtain⟨y,q,h⟩:=h
    refine AY q (Core.ds_len _) (Z ?_)
    refine AF ?_
    refine CO [] .fin (by kernel_rfl) (Z ?_)
    replace h:=AH h; obtain⟨g,j,h⟩:=h
    refine AK (JV _ _ _ j) (Z ?_)
    replace h:=AH h; obtain⟨k,b,h⟩:=h
    refine AK (ih0 _ _ _ b) (Z ?_)
    refine AF ?_
    refine AD h (fun h=>Z ?_) (fun h=>Z ?_)
    ·cases h
     simp only [go_sem]
    ·refine AF ?_
     exact lpF (ih2 a0 a1 (IntKind.i64.wrap (w+1)) _ h) [] [(1000002500,1000002500)]
   ·refine AF ?_
    cases h
    simp only [go_sem]
theorem I3 (n:Nat):(∀a0 a1 r,Bi n a0 a1=some r→AC Try.prog 60 [.agg (Core.avs a0),.int .i64 a1] (.bool r)):=(Ia n).1
theorem LG (a0 r) (h:Ez a0=some r):AC Try.prog 45 [.agg (Core.avs a0)] (.bool r):=by
 unfold Ez at h
 refine acF Try.func45 mixed (h:=Z ?_)
 replace h:=AH h; obtain⟨u,w,h⟩:=h
 refine AK (FD _ _ w) (Z ?_)
 refine AD h (fun h=>Z ?_) (fun h=>Z ?_)
 ·replace h:=AH h; obtain⟨y,q,h⟩:=h
  refine AK (I3 fuel _ _ _ q) (Z ?_)
  refine AF ?_
  cases h
  simp only [go_sem]
 ·refine AF ?_
  cases h
  simp only [go_sem]
theorem EN (n:Nat):(∀ (a0:List Core) (u:Int) (f1:(Core→Option Bool)) (g1:FuncId) (c1:List AV) (s1:Still c1) (h1:∀ (y0:Core) (q:Bool),f1 y0=some q→AC Try.prog g1 (.agg (Core.avs y0)::c1) (.bool q)) (r:Int),AZ n a0 u f1=some r→BY Try.prog Try.f78 [1,0,1,0] (.int .i64 r) ⟨[(0,.ro (List.map Core.ds a0)),(1,.fn g1 c1),(7,.int .i64 ((List.length a0:Nat):Int)),(8,.int .i64 u)],[],[]⟩):=by
 induction n with
 |zero=>exact((fun _ _ _ _ _ _ _ _ h=>by rw [AZ] at h; cases h))
 | succ n ih=>
  have ih0:=ih
  ·intro a0 u f1 g1 c1 s1 h1 r h
   rw [AZ] at h
   refine AR rfl rfl ?_
   try simp only [go_sem,s1.k,s1.r,s1.c,s1.p]
   refine A1 ?_
   try simp only [go_sem,s1.k,s1.r,s1.c,s1.p]
   refine AD h (fun h=>?_) (fun h=>?_)
   ·try simp only [go_sem,s1.k,s1.r,s1.c,s1.p]
    refine CY ?_
    try simp only [go_sem,s1.k,s1.r,s1.c,s1.p]
    replace h:=AH h; obtain⟨w,y,h⟩:=h
    refine AY y (Core.ds_len _) ?_
    try simp only [go_sem,s1.k,s1.r,s1.c,s1.p]
    replace h:=AH h; obtain⟨g,j,h⟩:=h
    refine AK (h1 _ _ j) ?_
    try simp only [go_sem,s1.k,s1.r,s1.c,s1.p]
    refine CY ?_
    try simp only [go_sem,s1.k,s1.r,s1.c,s1.p]
    refine AD h (fun h=>?_) (fun h=>?_)
    ·try simp only [go_sem,s1.k,s1.r,s1.c,s1.p]
     cases h
     simp only [go_sem,s1.k,s1.r,s1.c,s1.p]
    ·try simp only [go_sem,s1.k,s1.r,s1.c,s1.p]
     refine CY ?_
     try simp only [go_sem,s1.k,s1.r,s1.c,s1.p]
     refine Nl (EB rfl rfl (ih0 a0 (IntKind.i64.wrap (u+1)) f1 g1 c1 s1 h1 _ h):) (.one ⟨_,.done _,[],[],?_⟩)
     try simp only [go_sem,s1.k,s1.r,s1.c,s1.p]
   ·try simp only [go_sem,s1.k,s1.r,s1.c,s1.p]
    refine CY ?_
    try simp only [go_sem,s1.k,s1.r,s1.c,s1.p]
    cases h
    simp only [go_sem,s1.k,s1.r,s1.c,s1.p]
theorem FG (a0:List Core) (f1:(Core→Option Bool)) (g1:FuncId) (c1:List AV) (s1:Still c1) (h1:∀ (y0:Core) (q:Bool),f1 y0=some q→AC Try.prog g1 (.agg (Core.avs y0)::c1) (.bool q)) (r:Int) (h:Bh a0 f1=some r):AC Try.prog 78 [.ro (List.map Core.ds a0),.fn g1 c1] (.int .i64 r):=by
 unfold Bh at h
 refine acF Try.func78 mixed (h:=?_)
 try simp only [go_sem,s1.k,s1.r,s1.c,s1.p]
 refine EU (EB rfl rfl (EN fuel a0 0 f1 g1 c1 s1 h1 _ h):) (.one ⟨_,.done _,[],[],?_⟩)
 try simp only [go_sem,s1.k,s1.r,s1.c,s1.p]
theorem EO (a0:List Core) (f1:(Core→Option Bool)) (g1:FuncId) (c1:List AV) (s1:Still c1) (h1:∀ (y0:Core) (q:Bool),f1 y0=some q→AC Try.prog g1 (.agg (Core.avs y0)::c1) (.bool q)) (r:Bool) (h:Aw a0 f1=some r):AC Try.prog 71 [.ro (List.map Core.ds a0),.fn g1 c1] (.bool r):=by
 unfold Aw at h
 refine acF Try.func71 mixed (h:=?_)
 try simp only [go_sem,s1.k,s1.r,s1.c,s1.p]
 replace h:=AH h; obtain⟨u,w,h⟩:=h
 refine AK (FG _ _ g1 c1 s1 h1 _ w) ?_
 try simp only [go_sem,s1.k,s1.r,s1.c,s1.p]
 refine CY ?_
 try simp only [go_sem,s1.k,s1.r,s1.c,s1.p]
 cases h
 simp only [go_sem,s1.k,s1.r,s1.c,s1.p]
theorem JW (n:Nat):(∀ (a0:Core) (f1:(Core→Option Bool)) (g1:FuncId) (c1:List AV) (s1:Still c1) (h1:∀ (y0:Core) (q:Bool),f1 y0=some q→AC Try.prog g1 (.agg (Core.avs y0)::c1) (.bool q)) (r:Bool),EH n a0 f1=some r→AC Try.prog 72 [.agg (Core.avs a0),.rop [.fn g1 c1] 0] (.bool r))∧
    (∀ (a0:Core) (f1:(Core→Option Bool)) (g1:FuncId) (c1:List AV) (s1:Still c1) (h1:∀ (y0:Core) (q:Bool),f1 y0=some q→AC Try.prog g1 (.agg (Core.avs y0)::c1) (.bool q)) (r:Bool),DW n a0 f1=some r→AC Try.prog 61 [.agg (Core.avs a0),.fn g1 c1] (.bool r)):=by
 induction n with
 |zero=>exact⟨(fun _ _ _ _ _ _ _ h=>by rw [EH] at h; cases h),(fun _ _ _ _ _ _ _ h=>by rw [DW] at h; cases h)⟩
 | succ n ih=>
  obtain⟨ih0,ih1⟩:=ih
  refine⟨?_,?_⟩
  ·intro a0 f1 g1 c1 s1 h1 r h
   rw [EH] at h
   refine acF Try.func72 mixed (h:=?_)
   try simp only [go_sem,s1.k,s1.r,s1.c,s1.p]
   replace h:=AH h; obtain⟨u,w,h⟩:=h
   refine AK (ih1 _ _ g1 c1 s1 h1 _ w) ?_
   try simp only [go_sem,s1.k,s1.r,s1.c,s1.p]
   refine CY ?_
   try simp only [go_sem,s1.k,s1.r,s1.c,s1.p]
   cases h
   simp only [go_sem,s1.k,s1.r,s1.c,s1.p]
  ·intro a0 f1 g1 c1 s1 h1 r h
   rw [DW] at h
   refine acF Try.func61 mixed (h:=?_)
   try simp only [go_sem,s1.k,s1.r,s1.c,s1.p]
   replace h:=AH h; obtain⟨u,w,h⟩:=h
   refine AK (h1 _ _ w) ?_
   try simp only [go_sem,s1.k,s1.r,s1.c,s1.p]
   refine AD h (fun h=>?_) (fun h=>?_)
   ·try simp only [go_sem,s1.k,s1.r,s1.c,s1.p]
    refine CY ?_
    try simp only [go_sem,s1.k,s1.r,s1.c,s1.p]
    cases h
    simp only [go_sem,s1.k,s1.r,s1.c,s1.p]
   ·try simp only [go_sem,s1.k,s1.r,s1.c,s1.p]
    replace h:=AH h; obtain⟨y,g,h⟩:=h
    refine AK (EO _ _ 72 [.rop [.fn g1 c1] 0] (Still.of (by simp only [DL,Dw,Bool.and_true,Bool.true_and,Bool.and_self,s1.p])) (fun y0 q hq=>ih0 y0 _ g1 c1 s1 h1 q hq) _ g) ?_
    try simp only [go_sem,s1.k,s1.r,s1.c,s1.p]
    refine CY ?_
    try simp only [go_sem,s1.k,s1.r,s1.c,s1.p]
    cases h
    simp only [go_sem,s1.k,s1.r,s1.c,s1.p]
theorem Mw (n:Nat):(∀ (a0:Core) (f1:(Core→Option Bool)) (g1:FuncId) (c1:List AV) (s1:Still c1) (h1:∀ (y0:Core) (q:Bool),f1 y0=some q→AC Try.prog g1 (.agg (Core.avs y0)::c1) (.bool q)) (r:Bool),DW n a0 f1=some r→AC Try.prog 61 [.agg (Core.avs a0),.fn g1 c1] (.bool r)):=(JW n).2
theorem JX (a0 r) (h:EV a0=some r):AC Try.prog 62 [.agg (Core.avs a0)] (.bool r):=by
 unfold EV at h
 refine acF Try.func62 mixed (h:=Z ?_)
 refine AD h (fun h=>Z ?_) (fun h=>Z ?_)
 ·refine AF ?_
  cases h
  simp only [go_sem]
 ·refine AF ?_
  cases h
  simp only [go_sem]
theorem LH (a0 r) (h:E0 a0=some r):AC Try.prog 46 [.agg (Core.avs a0)] (.bool r):=by
 unfold E0 at h
 refine acF Try.func46 mixed (h:=Z ?_)
 replace h:=AH h; obtain⟨u,w,h⟩:=h
 refine AK (FD _ _ w) (Z ?_)
 refine AD h (fun h=>Z ?_) (fun h=>Z ?_)
 ·replace h:=AH h; obtain⟨y,g,h⟩:=h
  refine AK (Mw fuel _ _ 62 [] (Still.of rfl) (fun y0 q hq=>JX y0  q hq) _ g) (Z ?_)
  refine AF ?_
  cases h
  simp only [go_sem]
 ·refine AF ?_
  cases h
  simp only [go_sem]
theorem LI (a0 r) (h:E1 a0=some r):AC Try.prog 47 [.agg (Core.avs a0)] (.int .i64 r):=by
 unfold E1 at h
 refine acF Try.func47 mixed (h:=Z ?_)
 replace h:=AH h; obtain⟨u,w,h⟩:=h
 refine AK (FD _ _ w) (Z ?_)
 refine AF ?_
 refine AD h (fun h=>Z ?_) (fun h=>Z ?_)
 ·cases h
  simp only [go_sem]
 ·refine AF ?_
  replace h:=AH h; obtain⟨y,q,h⟩:=h
  refine AK (GG fuel _ _ q) (Z ?_)
  refine AF ?_
  cases h
  simp only [go_sem]
theorem FH (n:Nat):(∀ (a0:List ByteArray) (u:Int) (f1:(ByteArray→Option Bool)) (g1:FuncId) (c1:List AV) (s1:Still c1) (h1:∀ (y0:ByteArray) (q:Bool),f1 y0=some q→AC Try.prog g1 (.str y0::c1) (.bool q)) (r:Int),Ah n a0 u f1=some r→BY Try.prog Try.f73 [1,0,1,0] (.int .i64 r) ⟨[(0,.ro (List.map A2 a0)),(1,.fn g1 c1),(7,.int .i64 ((List.length a0:Nat):Int)),(8,.int .i64 u)],[],[]⟩):=by
 induction n with
 |zero=>exact((fun _ _ _ _ _ _ _ _ h=>by rw [Ah] at h; cases h))
 | succ n ih=>
  have ih0:=ih
  ·intro a0 u f1 g1 c1 s1 h1 r h
   rw [Ah] at h
   refine AR rfl rfl ?_
   try simp only [go_sem,s1.k,s1.r,s1.c,s1.p]
   refine A1 ?_
   try simp only [go_sem,s1.k,s1.r,s1.c,s1.p]
   refine AD h (fun h=>?_) (fun h=>?_)
   ·try simp only [go_sem,s1.k,s1.r,s1.c,s1.p]
    refine CY ?_
    try simp only [go_sem,s1.k,s1.r,s1.c,s1.p]
    replace h:=AH h; obtain⟨w,y,h⟩:=h
    refine AY y rfl ?_
    try simp only [go_sem,s1.k,s1.r,s1.c,s1.p]
    replace h:=AH h; obtain⟨g,j,h⟩:=h
    refine AK (h1 _ _ j) ?_
    try simp only [go_sem,s1.k,s1.r,s1.c,s1.p]
    refine CY ?_
    try simp only [go_sem,s1.k,s1.r,s1.c,s1.p]
    refine AD h (fun h=>?_) (fun h=>?_)
    ·try simp only [go_sem,s1.k,s1.r,s1.c,s1.p]
     cases h
     simp only [go_sem,s1.k,s1.r,s1.c,s1.p]
    ·try simp only [go_sem,s1.k,s1.r,s1.c,s1.p]
     refine CY ?_
     try simp only [go_sem,s1.k,s1.r,s1.c,s1.p]
     refine Nl (EB rfl rfl (ih0 a0 (IntKind.i64.wrap (u+1)) f1 g1 c1 s1 h1 _ h):) (.one ⟨_,.done _,[],[],?_⟩)
     try simp only [go_sem,s1.k,s1.r,s1.c,s1.p]
   ·try simp only [go_sem,s1.k,s1.r,s1.c,s1.p]
    refine CY ?_
    try simp only [go_sem,s1.k,s1.r,s1.c,s1.p]
    cases h
    simp only [go_sem,s1.k,s1.r,s1.c,s1.p]
theorem GB (a0:List ByteArray) (f1:(ByteArray→Option Bool)) (g1:FuncId) (c1:List AV) (s1:Still c1) (h1:∀ (y0:ByteArray) (q:Bool),f1 y0=some q→AC Try.prog g1 (.str y0::c1) (.bool q)) (r:Int) (h:CK a0 f1=some r):AC Try.prog 73 [.ro (List.map A2 a0),.fn g1 c1] (.int .i64 r):=by
 unfold CK at h
 refine acF Try.func73 mixed (h:=?_)
 try simp only [go_sem,s1.k,s1.r,s1.c,s1.p]
 refine EU (EB rfl rfl (FH fuel a0 0 f1 g1 c1 s1 h1 _ h):) (.one ⟨_,.done _,[],[],?_⟩)
 try simp only [go_sem,s1.k,s1.r,s1.c,s1.p]
theorem FI (a0:List ByteArray) (f1:(ByteArray→Option Bool)) (g1:FuncId) (c1:List AV) (s1:Still c1) (h1:∀ (y0:ByteArray) (q:Bool),f1 y0=some q→AC Try.prog g1 (.str y0::c1) (.bool q)) (r:Bool) (h:BF a0 f1=some r):AC Try.prog 64 [.ro (List.map A2 a0),.fn g1 c1] (.bool r):=by
 unfold BF at h
 refine acF Try.func64 mixed (h:=?_)
 try simp only [go_sem,s1.k,s1.r,s1.c,s1.p]
 replace h:=AH h; obtain⟨u,w,h⟩:=h
 refine AK (GB _ _ g1 c1 s1 h1 _ w) ?_
 try simp only [go_sem,s1.k,s1.r,s1.c,s1.p]
 refine CY ?_
 try simp only [go_sem,s1.k,s1.r,s1.c,s1.p]
 cases h
 simp only [go_sem,s1.k,s1.r,s1.c,s1.p]
theorem I4 (a0 r) (h:EC a0=some r):AC Try.prog 65 [.str a0] (.bool r):=by
 unfold EC at h
 refine acF Try.func65 mixed (h:=Z ?_)
 cases h
 simp only [go_sem]
theorem Kv (a0 r) (h:EI a0=some r):AC Try.prog 48 [.ro (List.map A2 a0)] (.bool r):=by
 unfold EI at h
 refine acF Try.func48 mixed (h:=Z ?_)
 replace h:=AH h; obtain⟨u,w,h⟩:=h
 refine AK (FI _ _ 65 [] (Still.of rfl) (fun y0 q hq=>I4 y0  q hq) _ w) (Z ?_)
 refine AF ?_
 cases h
 simp only [go_sem]
theorem H0 (a0 r) (h:Ce a0=some r):AC Try.prog 24 [.agg (Labelled.avs a0)] (.bool r):=by
 unfold Ce at h
 refine acF Try.func24 mixed (h:=Z ?_)
 refine CO [] .fin (by kernel_rfl) (Z ?_)
 replace h:=AH h; obtain⟨u,w,h⟩:=h
 refine AK (LG _ _ w) (Z ?_)
 refine AD h (fun h=>Z ?_) (fun h=>Z ?_)
 ·replace h:=AH h; obtain⟨y,q,h⟩:=h
  refine AK (LH _ _ q) (Z ?_)
  refine AD h (fun h=>Z ?_) (fun h=>Z ?_)
  ·replace h:=AH h; obtain⟨g,j,h⟩:=h
   refine AK (LI _ _ j) (Z ?_)
   refine AD h (fun h=>Z ?_) (fun h=>Z ?_)
   ·replace h:=AH h; obtain⟨k,b,h⟩:=h
    refine AK (Kv _ _ b) (Z ?_)
    refine AF ?_
    cases h
    simp only [go_sem]
   ·refine AF ?_
    cases h
    simp only [go_sem]
  ·refine AF ?_
   cases h
   simp only [go_sem]
 ·refine AF ?_
  cases h
  simp only [go_sem]
theorem Cb (a0 a1 a2 r) (h:C3 a0 a1 a2=some r):AC Try.prog 39 [.int .i64 a0,.int .i64 a1,.int .i64 a2] (.bool r):=by
 unfold C3 at h
 refine acF Try.func39 mixed (h:=Z ?_)
 refine AD h (fun h=>Z ?_) (fun h=>Z ?_)
 ·refine AF ?_
  cases h
  simp only [go_sem]
 ·refine AF ?_
  cases h
  simp only [go_sem]
theorem Fn (a0:Int) (u:Bool) (r:Int × Int × Int × Int) (h:DD a0 u=some r):BY Try.prog Try.f74 [1,0,1,0,1,1,1,1,1] (.tup [.int .i64 r.1,.int .i64 r.2.1,.int .i64 r.2.2.1,.int .i64 r.2.2.2]) ⟨[(6,.int .i64 a0),(15,.bool u)],[],[]⟩:=by
 unfold DD at h
 refine AR rfl rfl (Z ?_)
 refine AD h (fun h=>Z ?_) (fun h=>Z ?_)
 ·cases h
  simp only [go_sem]
 ·refine AD h (fun h=>Z ?_) (fun h=>Z ?_)
  ·cases h
   simp only [go_sem]
  ·refine AD h (fun h=>Z ?_) (fun h=>Z ?_)
   ·cases h
    simp only [go_sem]
   ·refine AD h (fun h=>Z ?_) (fun h=>Z ?_)
    ·cases h
     simp only [go_sem]
    ·refine AF ?_
     cases h
     simp only [go_sem]
theorem D7 (a0:Int) (u:Bool) (r:Int × Int × Int × Int) (h:Cg a0 u=some r):BY Try.prog Try.f74 [1,0,1,0,1,1,1] (.tup [.int .i64 r.1,.int .i64 r.2.1,.int .i64 r.2.2.1,.int .i64 r.2.2.2]) ⟨[(6,.int .i64 a0),(11,.bool u)],[],[]⟩:=by
 unfold Cg at h
 refine AR rfl rfl (Z ?_)
 refine AD h (fun h=>Z ?_) (fun h=>Z ?_)
 ·cases h
  simp only [go_sem]
 ·refine AD h (fun h=>Z ?_) (fun h=>Z ?_)
  ·exact A4 (Fn a0 (decide (a0=4)) _ h) [] []
  ·exact A4 (Fn a0 (decide (a0=6)) _ h) [] []
theorem D8 (a0:Int) (u:Bool) (r:Int × Int × Int × Int) (h:Ch a0 u=some r):BY Try.prog Try.f74 [1,0,1,0,1] (.tup [.int .i64 r.1,.int .i64 r.2.1,.int .i64 r.2.2.1,.int .i64 r.2.2.2]) ⟨[(6,.int .i64 a0),(7,.bool u)],[],[]⟩:=by
 unfold Ch at h
 refine AR rfl rfl (Z ?_)
 refine AD h (fun h=>Z ?_) (fun h=>Z ?_)
 ·cases h
  simp only [go_sem]
 ·refine AD h (fun h=>Z ?_) (fun h=>Z ?_)
  ·exact A4 (D7 a0 (decide (a0=3)) _ h) [] []
  ·refine AD h (fun h=>Z ?_) (fun h=>Z ?_)
   ·exact A4 (D7 a0 (decide (a0=5)) _ h) [] []
   ·exact A4 (D7 a0 (decide (a0=7)) _ h) [] []
theorem LJ (a0 r) (h:E2 a0=some r):AC Try.prog 74 [.int .i64 a0] (.tup [.int .i64 r.1,.int .i64 r.2.1,.int .i64 r.2.2.1,.int .i64 r.2.2.2]):=by
 unfold E2 at h
 refine acF Try.func74 mixed (h:=Z ?_)
 refine AD h (fun h=>Z ?_) (fun h=>Z ?_)
 ·exact A4 (D8 a0 (decide (a0=1)) _ h) [] []
 ·refine AD h (fun h=>Z ?_) (fun h=>Z ?_)
  ·exact A4 (D8 a0 (decide (a0=2)) _ h) [] []
  ·exact A4 (D8 a0 (decide (a0=11)) _ h) [] []
theorem LK (a0 r) (h:E3 a0=some r):AC Try.prog 75 [.rop (Core.avs a0) 0] (.bool r):=by
 unfold E3 at h
 refine acF Try.func75 mixed (h:=Z ?_)
 refine AD h (fun h=>Z ?_) (fun h=>Z ?_)
 ·replace h:=AH h; obtain⟨u,w,h⟩:=h
  refine AK (Cb _ _ _ _ w) (Z ?_)
  refine AF ?_
  cases h
  simp only [go_sem]
 ·refine AD h (fun h=>Z ?_) (fun h=>Z ?_)
  ·replace h:=AH h; obtain⟨y,q,h⟩:=h
   refine AK (Cb _ _ _ _ q) (Z ?_)
   refine AF ?_
   cases h
   simp only [go_sem]
  ·refine AD h (fun h=>Z ?_) (fun h=>Z ?_)
   ·replace h:=AH h; obtain⟨g,j,h⟩:=h
    refine AK (Cb _ _ _ _ j) (Z ?_)
    refine AF ?_
    cases h
    simp only [go_sem]
   ·refine AD h (fun h=>Z ?_) (fun h=>Z ?_)
    ·replace h:=AH h; obtain⟨k,b,h⟩:=h
     refine AK (Cb _ _ _ _ b) (Z ?_)
     refine AF ?_
     cases h
     simp only [go_sem]
    ·refine AD h (fun h=>Z ?_) (fun h=>Z ?_)
     ·replace h:=AH h; obtain⟨d,c,h⟩:=h
      refine AK (Cb _ _ _ _ c) (Z ?_)
      refine AF ?_
      cases h
      simp only [go_sem]
     ·refine AF ?_
      cases h
      simp only [go_sem]
theorem Kw (n:Nat):(∀a0 a1 a2 r,Ct n a0 a1 a2=some r→AC Try.prog 66 [.rop (Core.avs a0) 0,.int .i64 a1,.int .i64 a2] (.int .i64 r))∧
    (∀a0 a1 a2 u r,A3 n a0 a1 a2 u=some r→BY Try.prog Try.f66 [1,1,0,1] (.int .i64 r) ⟨[(0,.rop [.int .i64 a0.kind,.int .i64 a0.value,.ro (List.map AM a0.data),.ro (List.map Core.ds a0.kids)] 0),(1,.int .i64 a1),(2,.int .i64 a2),(57,.bool u)],[],[]⟩)∧
    (∀a0 a1 a2 w r,Bj n a0 a1 a2 w=some r→BY Try.prog Try.f66 [1,1,1,0,1,0] (.int .i64 r) ⟨[(0,.rop [.int .i64 a0.kind,.int .i64 a0.value,.ro (List.map AM a0.data),.ro (List.map Core.ds a0.kids)] 0),(1,.int .i64 a1),(2,.int .i64 a2),(11,.int .i64 w)],[],[]⟩)∧
    (∀a0 a1 a2 y q r,Bk n a0 a1 a2 y q=some r→BY Try.prog Try.f66 [1,1,1,1,1,0,1,0] (.int .i64 r) ⟨[(0,.rop [.int .i64 a0.kind,.int .i64 a0.value,.ro (List.map AM a0.data),.ro (List.map Core.ds a0.kids)] 0),(1,.int .i64 a1),(2,.int .i64 a2),(12,.int .i64 y),(13,.int .i64 q)],[],[]⟩):=by
 induction n with
 |zero=>exact⟨(fun _ _ _ _ h=>by rw [Ct] at h; cases h),(fun _ _ _ _ _ h=>by rw [A3] at h; cases h),(fun _ _ _ _ _ h=>by rw [Bj] at h; cases h),(fun _ _ _ _ _ _ h=>by rw [Bk] at h; cases h)⟩
 | succ n ih=>
  obtain⟨ih0,ih1,ih2,ih3⟩:=ih
  refine⟨?_,?_,?_,?_⟩
  ·intro a0 a1 a2 r h
   rw [Ct] at h
   refine acF Try.func66 mixed (h:=Z ?_)
   replace h:=AH h; obtain⟨g,j,h⟩:=h
   refine AK (LJ _ _ j) (Z ?_)
   refine AF ?_
   refine AD h (fun h=>Z ?_) (fun h=>Z ?_)
   ·exact A4 (ih1 a0 a1 a2 true _ h) [] []
   ·refine AD h (fun h=>Z ?_) (fun h=>Z ?_)
    ·exact A4 (ih1 a0 a1 a2 true _ h) [] []
    ·replace h:=AH h; obtain⟨k,b,h⟩:=h
     refine AK (Cb _ _ _ _ b) (Z ?_)
     refine AD h (fun h=>Z ?_) (fun h=>Z ?_)
     ·exact A4 (ih1 a0 a1 a2 true _ h) [] []
     ·replace h:=AH h; obtain⟨d,c,h⟩:=h
      refine AK (Cb _ _ _ _ c) (Z ?_)
      refine AD h (fun h=>Z ?_) (fun h=>Z ?_)
      ·exact A4 (ih1 a0 a1 a2 true _ h) [] []
      ·replace h:=AH h; obtain⟨e,i,h⟩:=h
       refine AK (LK _ _ i) (Z ?_)
       exact A4 (ih1 a0 a1 a2 (!e) _ h) [] []
  ·intro a0 a1 a2 u r h
   rw [A3] at h
   refine AR rfl rfl (Z ?_)
   refine AD h (fun h=>Z ?_) (fun h=>Z ?_)
   ·cases h
    simp only [go_sem]
   ·refine AF ?_
    exact loF (ih2 a0 a1 a2 0 _ h) [] []
  ·intro a0 a1 a2 w r h
   rw [Bj] at h
   refine AR rfl rfl (Z ?_)
   refine A1 (Z ?_)
   refine AD h (fun h=>Z ?_) (fun h=>Z ?_)
   ·refine AF ?_
    replace h:=AH h; obtain⟨l,t,h⟩:=h
    refine AY t rfl (Z ?_)
    replace h:=AH h; obtain⟨s,o,h⟩:=h
    refine AK (Cb _ _ _ _ o) (Z ?_)
    refine AF ?_
    refine AD h (fun h=>Z ?_) (fun h=>Z ?_)
    ·cases h
     simp only [go_sem]
    ·refine AF ?_
     exact lpF (ih2 a0 a1 a2 (IntKind.i64.wrap (w+1)) _ h) [] []
   ·refine AF ?_
    exact loF (ih3 a0 a1 a2 1 0 _ h) [] []
  ·intro a0 a1 a2 y q r h
   rw [Bk] at h
   refine AR rfl rfl (Z ?_)
   refine A1 (Z ?_)
   refine AD h (fun h=>Z ?_) (fun h=>Z ?_)
   ·refine AF ?_
    replace h:=AH h; obtain⟨z,u1,h⟩:=h
    refine AY u1 (Core.ds_len _) (Z ?_)
    replace h:=AH h; obtain⟨u2,u3,h⟩:=h
    refine AK (ih0 _ _ _ _ u3) (Z ?_)
    refine AF ?_
    refine AD h (fun h=>Z ?_) (fun h=>Z ?_)
    ·cases h
     simp only [go_sem]
    ·refine AF ?_
     refine AF ?_
     exact lpF (ih3 a0 a1 a2 (IntKind.i64.wrap (y+u2)) (IntKind.i64.wrap (q+1)) _ h) [] []
   ·refine AF ?_
    cases h
    simp only [go_sem]
theorem LL (n:Nat):(∀a0 a1 a2 r,Ct n a0 a1 a2=some r→AC Try.prog 66 [.rop (Core.avs a0) 0,.int .i64 a1,.int .i64 a2] (.int .i64 r)):=(Kw n).1
theorem PZ (a0 r) (h:IS a0=some r):AC Try.prog 57 [.rop (Core.avs a0) 0] (.bool r):=by
 unfold IS at h
 refine acF Try.func57 mixed (h:=Z ?_)
 replace h:=AH h; obtain⟨u,w,h⟩:=h
 refine AK (LL fuel _ _ _ _ w) (Z ?_)
 refine AF ?_
 cases h
 simp only [go_sem]
theorem D9 (u:Bool) (r:Int) (h:Ci u=some r):BY Try.prog Try.f67 [1,0,1] (.int .i64 r) ⟨[(20,.bool u)],[],[]⟩:=by
 unfold Ci at h
 refine AR rfl rfl (Z ?_)
 refine AD h (fun h=>Z ?_) (fun h=>Z ?_)
 ·cases h
  simp only [go_sem]
 ·refine AF ?_
  cases h
  simp only [go_sem]
theorem LM (a0 a1 r) (h:E4 a0 a1=some r):AC Try.prog 67 [.rop (Core.avs a0) 0,.int .i64 a1] (.int .i64 r):=by
 unfold E4 at h
 refine acF Try.func67 mixed (h:=Z ?_)
 refine AD h (fun h=>Z ?_) (fun h=>Z ?_)
 ·exact A4 (D9 true _ h) [] []
 ·refine AD h (fun h=>Z ?_) (fun h=>Z ?_)
  ·exact A4 (D9 (decide (a1=1)) _ h) [] []
  ·exact A4 (D9 false _ h) [] []
theorem Kx (n:Nat):(∀a0 a1 r,Cu n a0 a1=some r→AC Try.prog 58 [.rop (Core.avs a0) 0,.int .i64 a1] (.bool r))∧
    (∀a0 a1 u r,Bl n a0 a1 u=some r→BY Try.prog Try.f58 [1,1,0,1,0] (.bool r) ⟨[(0,.rop [.int .i64 a0.kind,.int .i64 a0.value,.ro (List.map AM a0.data),.ro (List.map Core.ds a0.kids)] 0),(1,.int .i64 a1),(5,.int .i64 u)],[],[]⟩):=by
 induction n with
 |zero=>exact⟨(fun _ _ _ h=>by rw [Cu] at h; cases h),(fun _ _ _ _ h=>by rw [Bl] at h; cases h)⟩
 | succ n ih=>
  obtain⟨ih0,ih1⟩:=ih
  refine⟨?_,?_⟩
  ·intro a0 a1 r h
   rw [Cu] at h
   refine acF Try.func58 mixed (h:=Z ?_)
   refine AD h (fun h=>Z ?_) (fun h=>Z ?_)
   ·cases h
    simp only [go_sem]
   ·refine AF ?_
    exact loF (ih1 a0 a1 0 _ h) [] []
  ·intro a0 a1 u r h
   rw [Bl] at h
   refine AR rfl rfl (Z ?_)
   refine A1 (Z ?_)
   refine AD h (fun h=>Z ?_) (fun h=>Z ?_)
   ·refine AF ?_
    refine CO [] .fin (by kernel_rfl) (Z ?_)
    replace h:=AH h; obtain⟨w,y,h⟩:=h
    refine AY y (Core.ds_len _) (Z ?_)
    replace h:=AH h; obtain⟨q,g,h⟩:=h
    refine AK (LM _ _ _ g) (Z ?_)
    replace h:=AH h; obtain⟨j,k,h⟩:=h
    refine AK (ih0 _ _ _ k) (Z ?_)
    refine AF ?_
    refine AD h (fun h=>Z ?_) (fun h=>Z ?_)
    ·cases h
     simp only [go_sem]
    ·refine AF ?_
     exact lpF (ih1 a0 a1 (IntKind.i64.wrap (u+1)) _ h) [] []
   ·refine AF ?_
    cases h
    simp only [go_sem]
theorem LN (n:Nat):(∀a0 a1 r,Cu n a0 a1=some r→AC Try.prog 58 [.rop (Core.avs a0) 0,.int .i64 a1] (.bool r)):=(Kx n).1
theorem Ky (a0 r) (h:EJ a0=some r):AC Try.prog 35 [.rop (Core.avs a0) 0] (.bool r):=by
 unfold EJ at h
 refine acF Try.func35 mixed (h:=Z ?_)
 replace h:=AH h; obtain⟨u,w,h⟩:=h
 refine AK (PZ _ _ w) (Z ?_)
 refine AD h (fun h=>Z ?_) (fun h=>Z ?_)
 ·replace h:=AH h; obtain⟨y,q,h⟩:=h
  refine AK (LN fuel _ _ _ q) (Z ?_)
  refine AF ?_
  cases h
  simp only [go_sem]
 ·refine AF ?_
  cases h
  simp only [go_sem]
theorem JY (n:Nat):(∀a0 r,CV n a0=some r→AC Try.prog 36 [.rop (Core.avs a0) 0] (.bool r))∧
    (∀a0 u r,Bw n a0 u=some r→BY Try.prog Try.f36 [1,0,1] (.bool r) ⟨[(0,.rop [.int .i64 a0.kind,.int .i64 a0.value,.ro (List.map AM a0.data),.ro (List.map Core.ds a0.kids)] 0),(15,.bool u)],[],[]⟩)∧
    (∀a0 w r,BR n a0 w=some r→BY Try.prog Try.f36 [1,1,0,1,0] (.bool r) ⟨[(0,.rop [.int .i64 a0.kind,.int .i64 a0.value,.ro (List.map AM a0.data),.ro (List.map Core.ds a0.kids)] 0),(3,.int .i64 w)],[],[]⟩):=by
 induction n with
 |zero=>exact⟨(fun _ _ h=>by rw [CV] at h; cases h),(fun _ _ _ h=>by rw [Bw] at h; cases h),(fun _ _ _ h=>by rw [BR] at h; cases h)⟩
 | succ n ih=>
  obtain⟨ih0,ih1,ih2⟩:=ih
  refine⟨?_,?_,?_⟩
  ·intro a0 r h
   rw [CV] at h
   refine acF Try.func36 mixed (h:=Z ?_)
   refine AD h (fun h=>Z ?_) (fun h=>Z ?_)
   ·exact A4 (ih1 a0 true _ h) [] []
   ·exact A4 (ih1 a0 (decide (a0.kind=7)) _ h) [] []
  ·intro a0 u r h
   rw [Bw] at h
   refine AR rfl rfl (Z ?_)
   refine AD h (fun h=>Z ?_) (fun h=>Z ?_)
   ·cases h
    simp only [go_sem]
   ·refine AF ?_
    exact loF (ih2 a0 0 _ h) [] []
  ·intro a0 w r h
   rw [BR] at h
   refine AR rfl rfl (Z ?_)
   refine A1 (Z ?_)
   refine AD h (fun h=>Z ?_) (fun h=>Z ?_)
   ·refine AF ?_
    replace h:=AH h; obtain⟨y,q,h⟩:=h
    refine AY q (Core.ds_len _) (Z ?_)
    replace h:=AH h; obtain⟨g,j,h⟩:=h
    refine AK (ih0 _ _ j) (Z ?_)
    refine AF ?_
    refine AD h (fun h=>Z ?_) (fun h=>Z ?_)
    ·cases h
     simp only [go_sem]
    ·refine AF ?_
     exact lpF (ih2 a0 (IntKind.i64.wrap (w+1)) _ h) [] []
   ·refine AF ?_
    cases h
    simp only [go_sem]
theorem Kz (n:Nat):(∀a0 r,CV n a0=some r→AC Try.prog 36 [.rop (Core.avs a0) 0] (.bool r)):=(JY n).1
theorem LO (n:Nat):(∀a0 a1 r,DX n a0 a1=some r→AC Try.prog 37 [.rop (Core.avs a0) 0,.int .i64 a1] (.int .i64 r))∧
    (∀a0 u w r,BN n a0 u w=some r→BY Try.prog Try.f37 [1,1,0,1,0] (.int .i64 r) ⟨[(0,.rop [.int .i64 a0.kind,.int .i64 a0.value,.ro (List.map AM a0.data),.ro (List.map Core.ds a0.kids)] 0),(1,.int .i64 u),(5,.int .i64 w)],[],[]⟩)∧
    (∀a0 u w y r,B7 n a0 u w y=some r→BY Try.prog Try.f37 [1,1,0,1,0,0,0,1] (.int .i64 r) ⟨[(0,.rop [.int .i64 a0.kind,.int .i64 a0.value,.ro (List.map AM a0.data),.ro (List.map Core.ds a0.kids)] 0),(1,.int .i64 u),(5,.int .i64 w),(18,.bool y)],[],[]⟩):=by
 induction n with
 |zero=>exact⟨(fun _ _ _ h=>by rw [DX] at h; cases h),(fun _ _ _ _ h=>by rw [BN] at h; cases h),(fun _ _ _ _ _ h=>by rw [B7] at h; cases h)⟩
 | succ n ih=>
  obtain⟨ih0,ih1,ih2⟩:=ih
  refine⟨?_,?_,?_⟩
  ·intro a0 a1 r h
   rw [DX] at h
   refine acF Try.func37 mixed (h:=Z ?_)
   exact loF (ih1 a0 (IntKind.i64.wrap (a1 - 1)) 0 _ h) [] []
  ·intro a0 u w r h
   rw [BN] at h
   refine AR rfl rfl (Z ?_)
   refine A1 (Z ?_)
   refine AD h (fun h=>Z ?_) (fun h=>Z ?_)
   ·exact A4 (ih2 a0 u w (decide (0≤u)) _ h) [] []
   ·exact A4 (ih2 a0 u w false _ h) [] []
  ·intro a0 u w y r h
   rw [B7] at h
   refine AR rfl rfl (Z ?_)
   refine AD h (fun h=>Z ?_) (fun h=>Z ?_)
   ·refine AF ?_
    replace h:=AH h; obtain⟨q,g,h⟩:=h
    refine AY g (Core.ds_len _) (Z ?_)
    replace h:=AH h; obtain⟨j,k,h⟩:=h
    refine AK (ih0 _ _ _ k) (Z ?_)
    refine AF ?_
    exact lpF (ih1 a0 j (IntKind.i64.wrap (w+1)) _ h) [] []
   ·refine AF ?_
    cases h
    simp only [go_sem]
theorem Mx (n:Nat):(∀a0 a1 r,DX n a0 a1=some r→AC Try.prog 37 [.rop (Core.avs a0) 0,.int .i64 a1] (.int .i64 r)):=(LO n).1
theorem I5 (n:Nat):(∀a0 u r,Bm n a0 u=some r→BY Try.prog Try.f38 [1,0,1,0] (.bool r) ⟨[(0,.ro (List.map A2 a0)),(3,.int .i64 u)],[],[]⟩):=by
 induction n with
 |zero=>exact((fun _ _ _ h=>by rw [Bm] at h; cases h))
 | succ n ih=>
  have ih0:=ih
  ·intro a0 u r h
   rw [Bm] at h
   refine AR rfl rfl (Z ?_)
   refine A1 (Z ?_)
   refine AD h (fun h=>Z ?_) (fun h=>Z ?_)
   ·refine AF ?_
    replace h:=AH h; obtain⟨w,y,h⟩:=h
    refine AY y rfl (Z ?_)
    refine AD h (fun h=>Z ?_) (fun h=>Z ?_)
    ·cases h
     simp only [go_sem]
    ·refine AF ?_
     exact lpF (ih0 a0 (IntKind.i64.wrap (u+1)) _ h) [] []
   ·refine AF ?_
    cases h
    simp only [go_sem]
theorem LP (a0 r) (h:E5 a0=some r):AC Try.prog 38 [.ro (List.map A2 a0)] (.bool r):=by
 unfold E5 at h
 refine acF Try.func38 mixed (h:=Z ?_)
 exact loF (I5 fuel a0 0 _ h) [] []
theorem Pa (a0 r) (h:IT a0=some r):AC Try.prog 18 [.rop (Labelled.avs a0) 0] (.bool r):=by
 unfold IT at h
 refine acF Try.func18 mixed (h:=Z ?_)
 refine CO [] .fin (by kernel_rfl) (Z ?_)
 replace h:=AH h; obtain⟨u,w,h⟩:=h
 refine AK (PH (Ky _ _ w) (.cons (.rop rfl) .nil)) (Z ?_)
 refine AD h (fun h=>Z ?_) (fun h=>Z ?_)
 ·replace h:=AH h; obtain⟨y,q,h⟩:=h
  refine AK (PH (Kz fuel _ _ q) (.cons (.rop rfl) .nil)) (Z ?_)
  refine AD h (fun h=>Z ?_) (fun h=>Z ?_)
  ·replace h:=AH h; obtain⟨g,j,h⟩:=h
   refine AK (PH (Mx fuel _ _ _ j) (.cons (.rop rfl) (.cons (.refl _) .nil))) (Z ?_)
   refine AD h (fun h=>Z ?_) (fun h=>Z ?_)
   ·replace h:=AH h; obtain⟨k,b,h⟩:=h
    refine AK (LP _ _ b) (Z ?_)
    refine AF ?_
    cases h
    simp only [go_sem]
   ·refine AF ?_
    cases h
    simp only [go_sem]
  ·refine AF ?_
   cases h
   simp only [go_sem]
 ·refine AF ?_
  cases h
  simp only [go_sem]
end Go.Proofs.Ytgigfdghecdlgaa.Ab
