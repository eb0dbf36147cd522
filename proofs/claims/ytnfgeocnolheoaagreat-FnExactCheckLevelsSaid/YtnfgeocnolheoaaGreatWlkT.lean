/-
 The functions do what their models say. Printed by wip/ab/gen.py.
-/
import Derived.Test.YtnfgeocnolheoaaGreatModT
import Derived.Test.YtnfgeocnolheoaaGreatTi2
import Derived.Test.YtnfgeocnolheoaaGreatScW
import Derived.Test.YtnfgeocnolheoaaGreatWlk
namespace Go.Proofs.YtnfgeocnolheoaaGreat.Ab
set_option linter.defProp false
set_option linter.unusedVariables false
set_option linter.unusedSimpArgs false
set_option maxRecDepth 20000
set_option maxHeartbeats 4000000
open Go.RowKit
theorem Pe (n:Nat):(∀a0 a1 r,FW n a0 a1=some r→AC Tryz.prog 90 [.agg (TType.avs a0),.int .i64 a1] (.int .i64 r))∧
    (∀a0 a1 r,GS n a0 a1=some r→AC Tryz.prog 128 [.ro (a0.map TType.ds),.int .i64 a1] (.int .i64 r))∧
    (∀a0 u w r,FK n a0 u w=some r→Af Tryz.prog Tryz.f128 [1,1,1,0,1,0] (.int .i64 r) ⟨[(0,.ro (a0.map TType.ds)),(1,.int .i64 u),(5,.int .i64 w)],[],[]⟩):=by
 induction n with
 |zero=>exact⟨(fun _ _ _ h=>by rw [FW] at h; cases h),(fun _ _ _ h=>by rw [GS] at h; cases h),(fun _ _ _ _ h=>by rw [FK] at h; cases h)⟩
 | succ n ih=>
  obtain⟨ih0,ih1,ih2⟩:=ih
  refine⟨?_,?_,?_⟩
  ·intro a0 a1 r h
   rw [FW] at h
   refine acF Tryz.func90 mixed (h:=Z ?_)
   refine Am (fun y=>?_) (fun y=>?_)
   ·replace h:=ifT (c:=(decide ((IntKind.i64.wrap (a1 - (a0.name.size:Int)))<0))) y h
    try simp only [go_sem]
    cases h
    simp only [go_sem]
   ·replace h:=ifF (c:=(decide ((IntKind.i64.wrap (a1 - (a0.name.size:Int)))<0))) y h
    try simp only [go_sem]
    refine AF ?_
    replace h:=AB h; obtain⟨q,g,h⟩:=h
    refine AH (ih1 _ _ _ g) (Z ?_)
    refine AF ?_
    refine Am (fun j=>?_) (fun j=>?_)
    ·replace h:=ifT (c:=(decide (q<0))) j h
     try simp only [go_sem]
     cases h
     simp only [go_sem]
    ·replace h:=ifF (c:=(decide (q<0))) j h
     try simp only [go_sem]
     refine AF ?_
     cases h
     simp only [go_sem]
  ·intro a0 a1 r h
   rw [GS] at h
   refine acF Tryz.func128 mixed (h:=Z ?_)
   refine Am (fun y=>?_) (fun y=>?_)
   ·replace h:=ifT (c:=(decide ((IntKind.i64.wrap (a1 - (a0.length:Int)))<0))) y h
    try simp only [go_sem]
    cases h
    simp only [go_sem]
   ·replace h:=ifF (c:=(decide ((IntKind.i64.wrap (a1 - (a0.length:Int)))<0))) y h
    try simp only [go_sem]
    refine AF ?_
    exact loF (ih2 a0 (IntKind.i64.wrap (a1 - (a0.length:Int))) 0 _ h) [] []
  ·intro a0 u w r h
   rw [FK] at h
   refine AL rfl rfl (Z ?_)
   refine AT (Z ?_)
   refine Am (fun j=>?_) (fun j=>?_)
   ·replace h:=ifT (c:=(decide (w<(a0.length:Int)))) j h
    try simp only [go_sem]
    refine AF ?_
    replace h:=AB h; obtain⟨k,b,h⟩:=h
    refine AK b (TType.ds_len _) (Z ?_)
    replace h:=AB h; obtain⟨d,e,h⟩:=h
    refine AH (ih0 _ _ _ e) (Z ?_)
    refine AF ?_
    refine AD h (fun h=>Z ?_) (fun h=>Z ?_)
    ·cases h
     simp only [go_sem]
    ·refine AF ?_
     exact lpF (ih2 a0 d (IntKind.i64.wrap (w+1)) _ h) [] []
   ·replace h:=ifF (c:=(decide (w<(a0.length:Int)))) j h
    try simp only [go_sem]
    refine AF ?_
    cases h
    simp only [go_sem]
def Q0 (n:Nat):=(Pe n).1
def VY (n:Nat):=(Pe n).2.1
theorem OY (a0 a1 r) (h:EF a0 a1=some r):AC Tryz.prog 127 [.agg (Constructor.avs a0),.int .i64 a1] (.int .i64 r):=by
 unfold EF at h
 refine acF Tryz.func127 mixed (h:=Z ?_)
 refine AD h (fun h=>Z ?_) (fun h=>Z ?_)
 ·cases h
  simp only [go_sem]
 ·refine AF ?_
  replace h:=AB h; obtain⟨u,w,h⟩:=h
  refine AH (VY fuel _ _ _ w) (Z ?_)
  refine AF ?_
  refine AD h (fun h=>Z ?_) (fun h=>Z ?_)
  ·cases h
   simp only [go_sem]
  ·refine AF ?_
   cases h
   simp only [go_sem]
theorem Lm (n:Nat):(∀a0 u w r,CE n a0 u w=some r→Af Tryz.prog Tryz.f89 [1,1,1,0,1,0] (.int .i64 r) ⟨[(0,.ro (a0.map Constructor.ds)),(1,.int .i64 u),(5,.int .i64 w)],[],[]⟩):=by
 induction n with
 |zero=>exact((fun _ _ _ _ h=>by rw [CE] at h; cases h))
 | succ n ih=>
  have ih0:=ih
  ·intro a0 u w r h
   rw [CE] at h
   refine AL rfl rfl (Z ?_)
   refine AT (Z ?_)
   refine AD h (fun h=>Z ?_) (fun h=>Z ?_)
   ·refine AF ?_
    replace h:=AB h; obtain⟨y,q,h⟩:=h
    refine AK q (Constructor.ds_len _) (Z ?_)
    replace h:=AB h; obtain⟨g,j,h⟩:=h
    refine AH (OY _ _ _ j) (Z ?_)
    refine AF ?_
    refine AD h (fun h=>Z ?_) (fun h=>Z ?_)
    ·cases h
     simp only [go_sem]
    ·refine AF ?_
     exact lpF (ih0 a0 g (IntKind.i64.wrap (w+1)) _ h) [] []
   ·refine AF ?_
    cases h
    simp only [go_sem]
theorem NV (a0 a1 r) (h:Eu a0 a1=some r):AC Tryz.prog 89 [.ro (a0.map Constructor.ds),.int .i64 a1] (.int .i64 r):=by
 unfold Eu at h
 refine acF Tryz.func89 mixed (h:=Z ?_)
 refine AD h (fun h=>Z ?_) (fun h=>Z ?_)
 ·cases h
  simp only [go_sem]
 ·refine AF ?_
  exact loF (Lm fuel a0 (IntKind.i64.wrap (a1 - (a0.length:Int))) 0 _ h) [] []
theorem XI (a0 a1 r) (h:Kp a0 a1=some r):AC Tryz.prog 42 [.agg (Data.avs a0),.int .i64 a1] (.int .i64 r):=by
 unfold Kp at h
 refine acF Tryz.func42 mixed (h:=Z ?_)
 refine AD h (fun h=>Z ?_) (fun h=>Z ?_)
 ·cases h
  simp only [go_sem]
 ·refine AF ?_
  replace h:=AB h; obtain⟨u,w,h⟩:=h
  refine AH (NV _ _ _ w) (Z ?_)
  refine AF ?_
  refine AD h (fun h=>Z ?_) (fun h=>Z ?_)
  ·cases h
   simp only [go_sem]
  ·refine AF ?_
   cases h
   simp only [go_sem]
theorem RO (n:Nat):(∀a0 u w r,FL n a0 u w=some r→Af Tryz.prog Tryz.f19 [1,1,1,0,1,0] (.int .i64 r) ⟨[(0,.ro (a0.map Data.ds)),(1,.int .i64 u),(5,.int .i64 w)],[],[]⟩):=by
 induction n with
 |zero=>exact((fun _ _ _ _ h=>by rw [FL] at h; cases h))
 | succ n ih=>
  have ih0:=ih
  ·intro a0 u w r h
   rw [FL] at h
   refine AL rfl rfl (Z ?_)
   refine AT (Z ?_)
   refine AD h (fun h=>Z ?_) (fun h=>Z ?_)
   ·refine AF ?_
    replace h:=AB h; obtain⟨y,q,h⟩:=h
    refine AK q (Data.ds_len _) (Z ?_)
    replace h:=AB h; obtain⟨g,j,h⟩:=h
    refine AH (XI _ _ _ j) (Z ?_)
    refine AF ?_
    refine AD h (fun h=>Z ?_) (fun h=>Z ?_)
    ·cases h
     simp only [go_sem]
    ·refine AF ?_
     exact lpF (ih0 a0 g (IntKind.i64.wrap (w+1)) _ h) [] []
   ·refine AF ?_
    cases h
    simp only [go_sem]
theorem VZ (a0 a1 r) (h:Kq a0 a1=some r):AC Tryz.prog 19 [.ro (a0.map Data.ds),.int .i64 a1] (.int .i64 r):=by
 unfold Kq at h
 refine acF Tryz.func19 mixed (h:=Z ?_)
 refine AD h (fun h=>Z ?_) (fun h=>Z ?_)
 ·cases h
  simp only [go_sem]
 ·refine AF ?_
  exact loF (RO fuel a0 (IntKind.i64.wrap (a1 - (a0.length:Int))) 0 _ h) [] []
theorem Pf (n:Nat):(∀a0 u w r,DT n a0 u w=some r→Af Tryz.prog Tryz.f129 [1,1,1,0,1,0] (.int .i64 r) ⟨[(0,.ro (a0.map strD)),(1,.int .i64 u),(5,.int .i64 w)],[],[]⟩):=by
 induction n with
 |zero=>exact((fun _ _ _ _ h=>by rw [DT] at h; cases h))
 | succ n ih=>
  have ih0:=ih
  ·intro a0 u w r h
   rw [DT] at h
   refine AL rfl rfl (Z ?_)
   refine AT (Z ?_)
   refine AD h (fun h=>Z ?_) (fun h=>Z ?_)
   ·refine AF ?_
    replace h:=AB h; obtain⟨y,q,h⟩:=h
    refine AK q rfl (Z ?_)
    refine AD h (fun h=>Z ?_) (fun h=>Z ?_)
    ·cases h
     simp only [go_sem]
    ·refine AF ?_
     exact lpF (ih0 a0 (IntKind.i64.wrap (u - (y.size:Int))) (IntKind.i64.wrap (w+1)) _ h) [] []
   ·refine AF ?_
    cases h
    simp only [go_sem]
theorem TK (a0 a1 r) (h:Ia a0 a1=some r):AC Tryz.prog 129 [.ro (a0.map strD),.int .i64 a1] (.int .i64 r):=by
 unfold Ia at h
 refine acF Tryz.func129 mixed (h:=Z ?_)
 refine AD h (fun h=>Z ?_) (fun h=>Z ?_)
 ·cases h
  simp only [go_sem]
 ·refine AF ?_
  exact loF (Pf fuel a0 (IntKind.i64.wrap (a1 - (a0.length:Int))) 0 _ h) [] []
theorem Tl (n:Nat):(∀a0 a1 r,JG n a0 a1=some r→AC Tryz.prog 130 [.ro (a0.map Term.ds),.int .i64 a1] (.int .i64 r))∧
    (∀a0 u w r,FM n a0 u w=some r→Af Tryz.prog Tryz.f130 [1,1,1,0,1,0] (.int .i64 r) ⟨[(0,.ro (a0.map Term.ds)),(1,.int .i64 u),(5,.int .i64 w)],[],[]⟩)∧
    (∀a0 a1 r,F4 n a0 a1=some r→AC Tryz.prog 91 [.agg (Term.avs a0),.int .i64 a1] (.int .i64 r)):=by
 induction n with
 |zero=>exact⟨(fun _ _ _ h=>by rw [JG] at h; cases h),(fun _ _ _ _ h=>by rw [FM] at h; cases h),(fun _ _ _ h=>by rw [F4] at h; cases h)⟩
 | succ n ih=>
  obtain⟨ih0,ih1,ih2⟩:=ih
  refine⟨?_,?_,?_⟩
  ·intro a0 a1 r h
   rw [JG] at h
   refine acF Tryz.func130 mixed (h:=Z ?_)
   refine Am (fun y=>?_) (fun y=>?_)
   ·replace h:=ifT (c:=(decide ((IntKind.i64.wrap (a1 - (a0.length:Int)))<0))) y h
    try simp only [go_sem]
    cases h
    simp only [go_sem]
   ·replace h:=ifF (c:=(decide ((IntKind.i64.wrap (a1 - (a0.length:Int)))<0))) y h
    try simp only [go_sem]
    refine AF ?_
    exact loF (ih1 a0 (IntKind.i64.wrap (a1 - (a0.length:Int))) 0 _ h) [] []
  ·intro a0 u w r h
   rw [FM] at h
   refine AL rfl rfl (Z ?_)
   refine AT (Z ?_)
   refine Am (fun q=>?_) (fun q=>?_)
   ·replace h:=ifT (c:=(decide (w<(a0.length:Int)))) q h
    try simp only [go_sem]
    refine AF ?_
    replace h:=AB h; obtain⟨g,j,h⟩:=h
    refine AK j (Term.ds_len _) (Z ?_)
    replace h:=AB h; obtain⟨k,b,h⟩:=h
    refine AH (ih2 _ _ _ b) (Z ?_)
    refine AF ?_
    refine Am (fun d=>?_) (fun d=>?_)
    ·replace h:=ifT (c:=(decide (k<0))) d h
     try simp only [go_sem]
     cases h
     simp only [go_sem]
    ·replace h:=ifF (c:=(decide (k<0))) d h
     try simp only [go_sem]
     refine AF ?_
     exact lpF (ih1 a0 k (IntKind.i64.wrap (w+1)) _ h) [] []
   ·replace h:=ifF (c:=(decide (w<(a0.length:Int)))) q h
    try simp only [go_sem]
    refine AF ?_
    cases h
    simp only [go_sem]
  ·intro a0 a1 r h
   rw [F4] at h
   refine acF Tryz.func91 mixed (h:=Z ?_)
   refine Am (fun y=>?_) (fun y=>?_)
   ·replace h:=ifT (c:=(decide ((IntKind.i64.wrap (a1 - (a0.name.size:Int)))<0))) y h
    try simp only [go_sem]
    cases h
    simp only [go_sem]
   ·replace h:=ifF (c:=(decide ((IntKind.i64.wrap (a1 - (a0.name.size:Int)))<0))) y h
    try simp only [go_sem]
    refine AF ?_
    replace h:=AB h; obtain⟨e,i,h⟩:=h
    refine AH (Q0 fuel _ _ _ i) (Z ?_)
    refine AF ?_
    refine Am (fun q=>?_) (fun q=>?_)
    ·replace h:=ifT (c:=(decide (e<0))) q h
     try simp only [go_sem]
     cases h
     simp only [go_sem]
    ·replace h:=ifF (c:=(decide (e<0))) q h
     try simp only [go_sem]
     refine AF ?_
     replace h:=AB h; obtain⟨l,t,h⟩:=h
     refine AH (TK _ _ _ t) (Z ?_)
     refine AF ?_
     refine Am (fun d=>?_) (fun d=>?_)
     ·replace h:=ifT (c:=(decide (l<0))) d h
      try simp only [go_sem]
      cases h
      simp only [go_sem]
     ·replace h:=ifF (c:=(decide (l<0))) d h
      try simp only [go_sem]
      refine AF ?_
      replace h:=AB h; obtain⟨s,o,h⟩:=h
      refine AH (ih0 _ _ _ o) (Z ?_)
      refine AF ?_
      refine AD h (fun h=>Z ?_) (fun h=>Z ?_)
      ·cases h
       simp only [go_sem]
      ·refine AF ?_
       cases h
       simp only [go_sem]
def XJ (n:Nat):=(Tl n).2.2
theorem Yb (a0 a1 r) (h:NC a0 a1=some r):AC Tryz.prog 43 [.agg (Def.avs a0),.int .i64 a1] (.int .i64 r):=by
 unfold NC at h
 refine acF Tryz.func43 mixed (h:=Z ?_)
 refine AD h (fun h=>Z ?_) (fun h=>Z ?_)
 ·cases h
  simp only [go_sem]
 ·refine AF ?_
  replace h:=AB h; obtain⟨u,w,h⟩:=h
  refine AH (Q0 fuel _ _ _ w) (Z ?_)
  refine AF ?_
  refine AD h (fun h=>Z ?_) (fun h=>Z ?_)
  ·cases h
   simp only [go_sem]
  ·refine AF ?_
   replace h:=AB h; obtain⟨y,q,h⟩:=h
   refine AH (XJ fuel _ _ _ q) (Z ?_)
   refine AF ?_
   refine AD h (fun h=>Z ?_) (fun h=>Z ?_)
   ·cases h
    simp only [go_sem]
   ·refine AF ?_
    cases h
    simp only [go_sem]
theorem TL (n:Nat):(∀a0 u w r,F5 n a0 u w=some r→Af Tryz.prog Tryz.f20 [1,1,1,0,1,0] (.int .i64 r) ⟨[(0,.ro (a0.map Def.ds)),(1,.int .i64 u),(5,.int .i64 w)],[],[]⟩):=by
 induction n with
 |zero=>exact((fun _ _ _ _ h=>by rw [F5] at h; cases h))
 | succ n ih=>
  have ih0:=ih
  ·intro a0 u w r h
   rw [F5] at h
   refine AL rfl rfl (Z ?_)
   refine AT (Z ?_)
   refine AD h (fun h=>Z ?_) (fun h=>Z ?_)
   ·refine AF ?_
    replace h:=AB h; obtain⟨y,q,h⟩:=h
    refine AK q (Def.ds_len _) (Z ?_)
    replace h:=AB h; obtain⟨g,j,h⟩:=h
    refine AH (Yb _ _ _ j) (Z ?_)
    refine AF ?_
    refine AD h (fun h=>Z ?_) (fun h=>Z ?_)
    ·cases h
     simp only [go_sem]
    ·refine AF ?_
     exact lpF (ih0 a0 g (IntKind.i64.wrap (w+1)) _ h) [] []
   ·refine AF ?_
    cases h
    simp only [go_sem]
theorem XK (a0 a1 r) (h:MY a0 a1=some r):AC Tryz.prog 20 [.ro (a0.map Def.ds),.int .i64 a1] (.int .i64 r):=by
 unfold MY at h
 refine acF Tryz.func20 mixed (h:=Z ?_)
 refine AD h (fun h=>Z ?_) (fun h=>Z ?_)
 ·cases h
  simp only [go_sem]
 ·refine AF ?_
  exact loF (TL fuel a0 (IntKind.i64.wrap (a1 - (a0.length:Int))) 0 _ h) [] []
theorem Mv (a0 a1 r) (h:HJ a0 a1=some r):AC Tryz.prog 6 [.agg (TProgram.avs a0),.int .i64 a1] (.int .i64 r):=by
 unfold HJ at h
 refine acF Tryz.func6 mixed (h:=Z ?_)
 replace h:=AB h; obtain⟨u,w,h⟩:=h
 refine AH (VZ _ _ _ w) (Z ?_)
 refine AF ?_
 refine AD h (fun h=>Z ?_) (fun h=>Z ?_)
 ·cases h
  simp only [go_sem]
 ·refine AF ?_
  replace h:=AB h; obtain⟨y,q,h⟩:=h
  refine AH (XK _ _ _ q) (Z ?_)
  refine AF ?_
  refine AD h (fun h=>Z ?_) (fun h=>Z ?_)
  ·cases h
   simp only [go_sem]
  ·refine AF ?_
   cases h
   simp only [go_sem]
theorem TM (n:Nat):(∀a0 a1 r,Cw n a0 a1=some r→AC Tryz.prog 44 [.agg (TType.avs a0),.agg (TType.avs a1)] (.bool r))∧
    (∀a0 a1 u r,EZ n a0 a1 u=some r→Af Tryz.prog Tryz.f44 [1,0,1] (.bool r) ⟨[(2,.box 1000000500 0),(3,.box 1000000501 0),(26,.bool u)],[],[(1000000500,some [.int .i64 a0.kind,.str a0.name,.ro (a0.kids.map TType.ds)]),(1000000501,some [.int .i64 a1.kind,.str a1.name,.ro (a1.kids.map TType.ds)])]⟩)∧
    (∀a0 a1 w r,Ds n a0 a1 w=some r→Af Tryz.prog Tryz.f44 [1,1,0,1,0] (.bool r) ⟨[(2,.box 1000002500 0),(3,.box 1000002501 0),(5,.int .i64 w)],[],[(1000002500,some [.int .i64 a0.kind,.str a0.name,.ro (a0.kids.map TType.ds)]),(1000002501,some [.int .i64 a1.kind,.str a1.name,.ro (a1.kids.map TType.ds)])]⟩):=by
 induction n with
 |zero=>exact⟨(fun _ _ _ h=>by rw [Cw] at h; cases h),(fun _ _ _ _ h=>by rw [EZ] at h; cases h),(fun _ _ _ _ h=>by rw [Ds] at h; cases h)⟩
 | succ n ih=>
  obtain⟨ih0,ih1,ih2⟩:=ih
  refine⟨?_,?_,?_⟩
  ·intro a0 a1 r h
   rw [Cw] at h
   refine acF Tryz.func44 mixed (h:=Z ?_)
   refine AD h (fun h=>Z ?_) (fun h=>Z ?_)
   ·exact AU (ih1 a0 a1 true _ h) [] [(1000000500,1000),(1000000501,1001)]
   ·refine AD h (fun h=>Z ?_) (fun h=>Z ?_)
    ·exact AU (ih1 a0 a1 true _ h) [] [(1000000500,1000),(1000000501,1001)]
    ·exact AU (ih1 a0 a1 (!decide ((a0.kids.length:Int)=(a1.kids.length:Int))) _ h) [] [(1000000500,1000),(1000000501,1001)]
  ·intro a0 a1 u r h
   rw [EZ] at h
   refine AL rfl rfl (Z ?_)
   refine AD h (fun h=>Z ?_) (fun h=>Z ?_)
   ·cases h
    simp only [go_sem]
   ·refine AF ?_
    exact loF (ih2 a0 a1 0 _ h) [] [(1000002500,1000000500),(1000002501,1000000501)]
  ·intro a0 a1 w r h
   rw [Ds] at h
   refine AL rfl rfl (Z ?_)
   refine AT (Z ?_)
   refine AD h (fun h=>Z ?_) (fun h=>Z ?_)
   ·refine AF ?_
    refine AW [] .fin (by kernel_rfl) (Z ?_)
    replace h:=AB h; obtain⟨y,q,h⟩:=h
    refine AK q (TType.ds_len _) (Z ?_)
    replace h:=AB h; obtain⟨g,j,h⟩:=h
    refine AK j (TType.ds_len _) (Z ?_)
    replace h:=AB h; obtain⟨k,b,h⟩:=h
    refine AH (ih0 _ _ _ b) (Z ?_)
    refine AF ?_
    refine AD h (fun h=>Z ?_) (fun h=>Z ?_)
    ·cases h
     simp only [go_sem]
    ·refine AF ?_
     exact lpF (ih2 a0 a1 (IntKind.i64.wrap (w+1)) _ h) [] [(1000002500,1000002500),(1000002501,1000002501)]
   ·refine AF ?_
    cases h
    simp only [go_sem]
def Gr (n:Nat):=(TM n).1
theorem Q1  (r:TType) (h:Kr=some r):AG Tryz.prog 61 [] [] [] (.agg [.int .i64 r.kind,.str r.name,.ro (r.kids.map TType.ds)]) [] [] :=by
 unfold Kr at h
 refine agF Tryz.func61 mixed (h:=Z ?_)
 refine AF ?_
 cases h
 refine Aj (.frzN [(0,[2])] [] _ _ (by (first|rfl|(simp only [go_sem]; rfl))) (by (first|rfl|(simp only [go_sem]; rfl))) (.done _)) [] [] ?_
 simp only [go_sem]
 all_goals try rfl
theorem Ih (a0 a1 a2 a3 r) (h:F3 a0 a1 a2 a3=some r):AG Tryz.prog 62 [.agg [.ro (a0.names.map strD),.ro (a0.types.map TType.ds),.ro (a0.levels.map G0)],.str a1,.agg [.int .i64 a2.kind,.str a2.name,.ro (a2.kids.map TType.ds)],.int .i64 a3] [] [] (.agg [.ro (r.names.map strD),.ro (r.types.map TType.ds),.ro (r.levels.map G0)]) [] [] :=by
 unfold F3 at h
 refine agF Tryz.func62 mixed (h:=Z ?_)
 refine AF ?_
 replace h:=AB h; obtain⟨u,w,h⟩:=h
 replace h:=AB h; obtain⟨y,q,h⟩:=h
 replace h:=AB h; obtain⟨g,j,h⟩:=h
 replace h:=AB h; obtain⟨k,b,h⟩:=h
 replace h:=AB h; obtain⟨d,c,h⟩:=h
 replace h:=AB h; obtain⟨e,i,h⟩:=h
 refine iJ (fun S=>⟨[(9,if S 0=true then .bsl 2000 0 1 else .any),(10,if S 1=true then .box 1000 0 else .any),(11,if S 2=true then .ro (a0.names.map strD) else .any),(12,if S 3=true then .own 32048 else .any),(13,if S 4=true then .str a1 else .any),(14,if S 5=true then .bsl 2005 1 1 else .any),(15,if S 6=true then .own 32096 else .any),(16,if S 7=true then .bsl 2007 0 3 else .any),(17,if S 8=true then .box 1000 1 else .any),(18,if S 9=true then .ro (a0.types.map TType.ds) else .any),(19,if S 10=true then .own 32160 else .any),(20,if S 11=true then .agg [.int .i64 a2.kind,.str a2.name,.ro (a2.kids.map TType.ds)] else .any),(21,if S 12=true then .bsl 2012 1 3 else .any),(22,if S 13=true then .own 32208 else .any),(23,if S 14=true then .bsl 2014 0 1 else .any),(24,if S 15=true then .box 1000 2 else .any),(25,if S 16=true then .ro (a0.levels.map G0) else .any),(26,if S 17=true then .own 32272 else .any),(27,if S 18=true then .int .i64 a3 else .any),(28,if S 19=true then .bsl 2019 1 1 else .any),(29,if S 20=true then .own 32320 else .any),(30,if S 21=true then .agg [.own 32096,.own 32208,.own 32320] else .any),(0,.agg [.ro (a0.names.map strD),.ro (a0.types.map TType.ds),.ro (a0.levels.map G0)]),(1,.str a1),(2,.agg [.int .i64 a2.kind,.str a2.name,.ro (a2.kids.map TType.ds)]),(3,.int .i64 a3),(4,.box 1000 0),(6,.box 1001 0),(8,.box 1002 0)],(optK (S 20) (32320,(some ⟨List.map G0 e,some 1,0,false⟩)) (optK (S 17) (32272,(if S 20=true then none else (some ⟨List.map G0 d,some 1,0,false⟩))) (optK (S 13) (32208,(some ⟨List.map TType.dz k,some 3,0,true⟩)) (optK (S 10) (32160,(if S 13=true then none else (some ⟨List.map TType.dz g,some 3,0,true⟩))) (optK (S 6) (32096,(some ⟨List.map strD y,some 1,0,false⟩)) (optK (S 3) (32048,(if S 6=true then none else (some ⟨List.map strD u,some 1,0,false⟩))) [])))))),(optK (S 19) (2019,(some [.int .i64 a3])) (optK (S 14) (2014,(some [])) (optK (S 12) (2012,(some [.int .i64 a2.kind,.str a2.name,.ro (a2.kids.map TType.ds)])) (optK (S 7) (2007,(some [])) (optK (S 5) (2005,(some [.str a1])) (optK (S 0) (2000,(some [])) [(1000,(some [.ro (a0.names.map strD),.ro (a0.types.map TType.ds),.ro (a0.levels.map G0)])),(1001,(some [.int .i64 a2.kind,.str a2.name,.ro (a2.kids.map TType.ds)])),(1002,(if S 22=true then (some [.own 32096,.own 32208,.own 32320]) else (some [.nils,.nils,.nils])))]))))))⟩) [[],[],[1],[0,2],[],[4],[3,5],[],[],[8],[6,7,9],[],[11],[10,12],[],[],[15],[13,14,16],[],[18],[17,19],[6,13,20],[0,1,2,3,4,5,6,7,8,9,10,11,12,13,14,15,16,17,18,19,20,21]] (by kernel_rfl) ?_ ?_ ?_
 ·(first|done|(simp (config:= {contextual:=true}) [go_sem,Hm,leO1,decide_eq_true_eq]; done))
 ·refine Fq (by kernel_rfl) (fun S hS hd=>?_) ?_
  ·try simp only [go_sem,hS]
   (first|done|(simp (config:= {contextual:=true}) [go_sem,Hm,leO1,hS]; done))
  refine Fq (by kernel_rfl) (fun S hS hd=>?_) ?_
  ·try simp only [go_sem,hS]
   (first|done|(simp (config:= {contextual:=true}) [go_sem,Hm,leO1,hS]; done))
  refine Fq (by kernel_rfl) (fun S hS hd=>?_) ?_
  ·simp only [EL,DX,and_true] at hd
   have hd0:=hd
   try simp only [go_sem,hS,hd0]
   (first|done|(simp (config:= {contextual:=true}) [go_sem,Hm,leO1,hS,hd0]; done))
  refine Fq (by kernel_rfl) (fun S hS hd=>?_) ?_
  ·simp only [EL,DX,and_true] at hd
   obtain⟨hd0,hd1⟩:=hd
   try simp only [go_sem,hS,hd0,hd1]
   have hq_:=Ca w
   obtain⟨hv2003a,hv2003b⟩:=hq_
   refine G9 false ?_
   try simp only [go_sem,hS,hd0,hd1]
   refine Bl (HP (by intro x; exact⟨rfl,by simp [go_sem,D.flat]⟩) _) ?_
   try simp only [go_sem,hS,hd0,hd1]
   refine Bl (by refine⟨?_,?_⟩ <;> (try simp only [List.length_map,List.length_append,List.length_cons,List.length_nil] at*) <;> (try unfold maxLen) <;> omega) ?_
   try simp only [go_sem,hS,hd0,hd1]
   refine Av (u.map strD) (by rw [← hv2003b]; simp only [List.map_append,List.map_cons,List.map_nil,List.nil_append,List.append_nil,go_sem,slD]) ?_
   try simp only [go_sem,hS,hd0,hd1]
   (first|done|(simp (config:= {contextual:=true}) [go_sem,Hm,leO1,hS,hd0,hd1]; done))
  refine Fq (by kernel_rfl) (fun S hS hd=>?_) ?_
  ·try simp only [go_sem,hS]
   (first|done|(simp (config:= {contextual:=true}) [go_sem,Hm,leO1,hS]; done))
  refine Fq (by kernel_rfl) (fun S hS hd=>?_) ?_
  ·simp only [EL,DX,and_true] at hd
   have hd0:=hd
   try simp only [go_sem,hS,hd0]
   (first|done|(simp (config:= {contextual:=true}) [go_sem,Hm,leO1,hS,hd0]; done))
  refine Fq (by kernel_rfl) (fun S hS hd=>?_) ?_
  ·simp only [EL,DX,and_true] at hd
   obtain⟨hd0,hd1⟩:=hd
   try simp only [go_sem,hS,hd0,hd1]
   have hq_:=Ca q
   obtain⟨hv2006a,hv2006b⟩:=hq_
   refine G9 false ?_
   try simp only [go_sem,hS,hd0,hd1]
   refine Bl (by refine⟨?_,?_⟩ <;> (try simp only [List.length_map,List.length_append,List.length_cons,List.length_nil] at*) <;> (try unfold maxLen) <;> omega) ?_
   try simp only [go_sem,hS,hd0,hd1]
   refine Av (y.map strD) (by rw [← hv2006b]; simp only [List.map_append,List.map_cons,List.map_nil,List.nil_append,List.append_nil,go_sem,slD]) ?_
   try simp only [go_sem,hS,hd0,hd1]
   (first|done|(simp (config:= {contextual:=true}) [go_sem,Hm,leO1,hS,hd0,hd1]; done))
  refine Fq (by kernel_rfl) (fun S hS hd=>?_) ?_
  ·try simp only [go_sem,hS]
   (first|done|(simp (config:= {contextual:=true}) [go_sem,Hm,leO1,hS]; done))
  refine Fq (by kernel_rfl) (fun S hS hd=>?_) ?_
  ·try simp only [go_sem,hS]
   (first|done|(simp (config:= {contextual:=true}) [go_sem,Hm,leO1,hS]; done))
  refine Fq (by kernel_rfl) (fun S hS hd=>?_) ?_
  ·simp only [EL,DX,and_true] at hd
   have hd0:=hd
   try simp only [go_sem,hS,hd0]
   (first|done|(simp (config:= {contextual:=true}) [go_sem,Hm,leO1,hS,hd0]; done))
  refine Fq (by kernel_rfl) (fun S hS hd=>?_) ?_
  ·simp only [EL,DX,and_true] at hd
   obtain⟨hd0,hd1,hd2⟩:=hd
   try simp only [go_sem,hS,hd0,hd1,hd2]
   have hq_:=Ca j
   obtain⟨hv2010a,hv2010b⟩:=hq_
   refine G9 true ?_
   try simp only [go_sem,hS,hd0,hd1,hd2]
   refine Bl (YA (by intro x; exact⟨(TType.ds_len _),TType.dz_ng x⟩) _) ?_
   try simp only [go_sem,hS,hd0,hd1,hd2]
   refine Av (a0.types.map TType.dz) (Y9 TType.dz_fz _) ?_
   try simp only [go_sem,hS,hd0,hd1,hd2]
   refine Bl (by refine⟨?_,?_⟩ <;> (try simp only [List.length_map,List.length_append,List.length_cons,List.length_nil] at*) <;> (try unfold maxLen) <;> omega) ?_
   try simp only [go_sem,hS,hd0,hd1,hd2]
   refine Av (g.map TType.dz) (by rw [← hv2010b]; simp only [List.map_append,List.map_cons,List.map_nil,List.nil_append,List.append_nil,go_sem,TType.ds_eq,TType.dz_eq]) ?_
   try simp only [go_sem,hS,hd0,hd1,hd2]
   (first|done|(simp (config:= {contextual:=true}) [go_sem,Hm,leO1,hS,hd0,hd1,hd2]; done))
  refine Fq (by kernel_rfl) (fun S hS hd=>?_) ?_
  ·try simp only [go_sem,hS]
   (first|done|(simp (config:= {contextual:=true}) [go_sem,Hm,leO1,hS]; done))
  refine Fq (by kernel_rfl) (fun S hS hd=>?_) ?_
  ·simp only [EL,DX,and_true] at hd
   have hd0:=hd
   try simp only [go_sem,hS,hd0]
   (first|done|(simp (config:= {contextual:=true}) [go_sem,Hm,leO1,hS,hd0]; done))
  refine Fq (by kernel_rfl) (fun S hS hd=>?_) ?_
  ·simp only [EL,DX,and_true] at hd
   obtain⟨hd0,hd1⟩:=hd
   try simp only [go_sem,hS,hd0,hd1]
   have hq_:=Ca b
   obtain⟨hv2013a,hv2013b⟩:=hq_
   refine G9 true ?_
   try simp only [go_sem,hS,hd0,hd1]
   refine Bl (by refine⟨?_,?_⟩ <;> (try simp only [List.length_map,List.length_append,List.length_cons,List.length_nil] at*) <;> (try unfold maxLen) <;> omega) ?_
   try simp only [go_sem,hS,hd0,hd1]
   refine Av (k.map TType.dz) (by rw [← hv2013b]; simp only [List.map_append,List.map_cons,List.map_nil,List.nil_append,List.append_nil,go_sem,TType.ds_eq,TType.dz_eq]) ?_
   try simp only [go_sem,hS,hd0,hd1]
   (first|done|(simp (config:= {contextual:=true}) [go_sem,Hm,leO1,hS,hd0,hd1]; done))
  refine Fq (by kernel_rfl) (fun S hS hd=>?_) ?_
  ·try simp only [go_sem,hS]
   (first|done|(simp (config:= {contextual:=true}) [go_sem,Hm,leO1,hS]; done))
  refine Fq (by kernel_rfl) (fun S hS hd=>?_) ?_
  ·try simp only [go_sem,hS]
   (first|done|(simp (config:= {contextual:=true}) [go_sem,Hm,leO1,hS]; done))
  refine Fq (by kernel_rfl) (fun S hS hd=>?_) ?_
  ·simp only [EL,DX,and_true] at hd
   have hd0:=hd
   try simp only [go_sem,hS,hd0]
   (first|done|(simp (config:= {contextual:=true}) [go_sem,Hm,leO1,hS,hd0]; done))
  refine Fq (by kernel_rfl) (fun S hS hd=>?_) ?_
  ·simp only [EL,DX,and_true] at hd
   obtain⟨hd0,hd1,hd2⟩:=hd
   try simp only [go_sem,hS,hd0,hd1,hd2]
   have hq_:=Ca c
   obtain⟨hv2017a,hv2017b⟩:=hq_
   refine G9 false ?_
   try simp only [go_sem,hS,hd0,hd1,hd2]
   refine Bl (HP (by intro x; exact⟨rfl,by simp [go_sem,D.flat]⟩) _) ?_
   try simp only [go_sem,hS,hd0,hd1,hd2]
   refine Bl (by refine⟨?_,?_⟩ <;> (try simp only [List.length_map,List.length_append,List.length_cons,List.length_nil] at*) <;> (try unfold maxLen) <;> omega) ?_
   try simp only [go_sem,hS,hd0,hd1,hd2]
   refine Av (d.map G0) (by rw [← hv2017b]; simp only [List.map_append,List.map_cons,List.map_nil,List.nil_append,List.append_nil,go_sem,slD]) ?_
   try simp only [go_sem,hS,hd0,hd1,hd2]
   (first|done|(simp (config:= {contextual:=true}) [go_sem,Hm,leO1,hS,hd0,hd1,hd2]; done))
  refine Fq (by kernel_rfl) (fun S hS hd=>?_) ?_
  ·try simp only [go_sem,hS]
   (first|done|(simp (config:= {contextual:=true}) [go_sem,Hm,leO1,hS]; done))
  refine Fq (by kernel_rfl) (fun S hS hd=>?_) ?_
  ·simp only [EL,DX,and_true] at hd
   have hd0:=hd
   try simp only [go_sem,hS,hd0]
   (first|done|(simp (config:= {contextual:=true}) [go_sem,Hm,leO1,hS,hd0]; done))
  refine Fq (by kernel_rfl) (fun S hS hd=>?_) ?_
  ·simp only [EL,DX,and_true] at hd
   obtain⟨hd0,hd1⟩:=hd
   try simp only [go_sem,hS,hd0,hd1]
   have hq_:=Ca i
   obtain⟨hv2020a,hv2020b⟩:=hq_
   refine G9 false ?_
   try simp only [go_sem,hS,hd0,hd1]
   refine Bl (by refine⟨?_,?_⟩ <;> (try simp only [List.length_map,List.length_append,List.length_cons,List.length_nil] at*) <;> (try unfold maxLen) <;> omega) ?_
   try simp only [go_sem,hS,hd0,hd1]
   refine Av (e.map G0) (by rw [← hv2020b]; simp only [List.map_append,List.map_cons,List.map_nil,List.nil_append,List.append_nil,go_sem,slD]) ?_
   try simp only [go_sem,hS,hd0,hd1]
   (first|done|(simp (config:= {contextual:=true}) [go_sem,Hm,leO1,hS,hd0,hd1]; done))
  refine Fq (by kernel_rfl) (fun S hS hd=>?_) ?_
  ·simp only [EL,DX,and_true] at hd
   obtain⟨hd0,hd1,hd2⟩:=hd
   try simp only [go_sem,hS,hd0,hd1,hd2]
   (first|done|(simp (config:= {contextual:=true}) [go_sem,Hm,leO1,hS,hd0,hd1,hd2]; done))
  refine Fq (by kernel_rfl) (fun S hS hd=>?_) ?_
  ·simp only [EL,DX,and_true] at hd
   obtain⟨hd0,hd1,hd2,hd3,hd4,hd5,hd6,hd7,hd8,hd9,hd10,hd11,hd12,hd13,hd14,hd15,hd16,hd17,hd18,hd19,hd20,hd21⟩:=hd
   try simp only [go_sem,hS,hd0,hd1,hd2,hd3,hd4,hd5,hd6,hd7,hd8,hd9,hd10,hd11,hd12,hd13,hd14,hd15,hd16,hd17,hd18,hd19,hd20,hd21]
   (first|done|(simp (config:= {contextual:=true}) [go_sem,Hm,leO1,hS,hd0,hd1,hd2,hd3,hd4,hd5,hd6,hd7,hd8,hd9,hd10,hd11,hd12,hd13,hd14,hd15,hd16,hd17,hd18,hd19,hd20,hd21]; done))
  exact lR
 try simp only [go_sem]
 refine AF ?_
 cases h
 refine Aj (.frzT 32096 [(0,[0])] [(1002,0)] _ _ _ (by (first|rfl|(simp only [go_sem]; rfl))) (by decide) (by (first|rfl|(simp only [go_sem]; rfl))) (by (first|rfl|(simp only [go_sem]; rfl))) (.frzT 32208 [(0,[1])] [(1002,1)] _ _ _ (by (first|rfl|(simp only [go_sem]; rfl))) (by decide) (by (first|rfl|(simp only [go_sem]; rfl))) (by (first|rfl|(simp only [go_sem]; rfl))) (.frzT 32320 [(0,[2])] [(1002,2)] _ _ _ (by (first|rfl|(simp only [go_sem]; rfl))) (by decide) (by (first|rfl|(simp only [go_sem]; rfl))) (by (first|rfl|(simp only [go_sem]; rfl))) (.done _)))) [] [] ?_
 simp only [go_sem]
 all_goals try rfl
theorem XL (a0 a1 r) (h:O9 a0 a1=some r):AG Tryz.prog 63 [.agg [.int .i64 a0.kind,.str a0.name,.ro (a0.kids.map TType.ds)],.agg [.int .i64 a1.kind,.str a1.name,.ro (a1.kids.map TType.ds)]] [] [] (.agg [.int .i64 r.kind,.str r.name,.ro (r.kids.map TType.ds)]) [] [] :=by
 unfold O9 at h
 refine agF Tryz.func63 mixed (h:=Z ?_)
 refine AF ?_
 refine AF ?_
 cases h
 refine Aj (.frzB 2002 [(0,[2])] [(1002,2)] _ _ _ (by (first|rfl|(simp only [go_sem]; rfl))) (by decide) (by rfl) (by (first|rfl|(simp only [go_sem]; rfl))) (by (first|rfl|(simp only [go_sem]; rfl))) (.done _)) [] [] ?_
 simp only [go_sem]
 all_goals try rfl
theorem Va (a0 r) (h:ND a0=some r):AG Tryz.prog 64 [.agg [.int .i64 a0.kind,.str a0.name,.ro (a0.kids.map TType.ds)]] [] [] (.agg [.int .i64 r.kind,.str r.name,.ro (r.kids.map TType.ds)]) [] [] :=by
 unfold ND at h
 refine agF Tryz.func64 mixed (h:=Z ?_)
 refine AF ?_
 refine AF ?_
 cases h
 refine Aj (.frzB 2001 [(0,[2])] [(1001,2)] _ _ _ (by (first|rfl|(simp only [go_sem]; rfl))) (by decide) (by rfl) (by (first|rfl|(simp only [go_sem]; rfl))) (by (first|rfl|(simp only [go_sem]; rfl))) (.done _)) [] [] ?_
 simp only [go_sem]
 all_goals try rfl
theorem Np (a0 r) (h:Ct a0=some r):AG Tryz.prog 65 [.agg [.int .i64 a0.kind,.str a0.name,.ro (a0.kids.map TType.ds)]] [] [] (.tup [.agg [.int .i64 r.1.kind,.str r.1.name,.ro (r.1.kids.map TType.ds)],.bool r.2]) [] [] :=by
 unfold Ct at h
 refine agF Tryz.func65 mixed (h:=Z ?_)
 refine AF ?_
 refine AD h (fun h=>Z ?_) (fun h=>Z ?_)
 ·replace h:=AB h; obtain⟨u,w,h⟩:=h
  refine AK w (TType.ds_len _) (Z ?_)
  cases h
  refine Aj (.done _) [] [] ?_
  simp only [go_sem]
 ·refine AD h (fun h=>Z ?_) (fun h=>Z ?_)
  ·cases h
   refine Aj (.done _) [] [] ?_
   simp only [go_sem]
  ·refine AF ?_
   cases h
   refine Aj (.frzN [(0,[0,2])] [] _ _ (by (first|rfl|(simp only [go_sem]; rfl))) (by (first|rfl|(simp only [go_sem]; rfl))) (.done _)) [] [] ?_
   simp only [go_sem]
   all_goals try rfl
theorem RP (n:Nat):(∀a0 a1 a3 u w y q g r,Cy n a0 a1 a3 u w y q g=some r→EM Tryz.prog Tryz.f98 [1,1,0,1,0] (.agg [.ro (r.names.map strD),.ro (r.types.map TType.ds),.ro (r.levels.map G0)]) [] [] ⟨[(0,.rop [.ro (a0.datas.map Data.ds),.ro (a0.defs.map Def.ds)] 0),(1,.rop [.int .i64 a1.kind,.int .i64 a1.num,.str a1.name,.int .i64 a1.typ.kind,.str a1.typ.name,.ro (a1.typ.kids.map TType.ds),.ro (a1.names.map strD),.ro (a1.kids.map Term.ds)] 0),(3,.int .i64 a3),(6,.box 1000001500 0),(8,.box 1000001501 0),(9,.int .i64 u.1),(10,.int .i64 u.2),(11,.int .i64 g)],[],[(1000001500,some [.ro (w.map strD),.ro (y.map TType.ds),.ro (q.map G0)]),(1000001501,some [.nils,.nils,.nils])]⟩):=by
 induction n with
 |zero=>exact((fun _ _ _ _ _ _ _ _ _ h=>by rw [Cy] at h; cases h))
 | succ n ih=>
  have ih0:=ih
  ·intro a0 a1 a3 u w y q g r h
   rw [Cy] at h
   refine BI rfl rfl (Z ?_)
   refine AT (Z ?_)
   refine AD h (fun h=>Z ?_) (fun h=>Z ?_)
   ·refine AF ?_
    refine AW [false,false,false,false,false,false,false,false,false,false,false,false,false,false,false,false,false,false,false,false,false,false,false,false,false,true] (Tr.sq [25] .fin) (by kernel_rfl) (Z ?_)
    replace h:=AB h; obtain⟨j,k,h⟩:=h
    refine AK k rfl (Z ?_)
    replace h:=AB h; obtain⟨b,d,h⟩:=h
    refine AK d (Data.ds_len _) (Z ?_)
    replace h:=AB h; obtain⟨c,e,h⟩:=h
    refine AK e (Constructor.ds_len _) (Z ?_)
    replace h:=AB h; obtain⟨i,l,h⟩:=h
    refine AK l (TType.ds_len _) (Z ?_)
    replace h:=AB h; obtain⟨t,s,h⟩:=h
    refine Ak (Ih _ _ _ _ _ s) (by (first|rfl|(simp only [go_sem]; rfl))) (by first|rfl|(simp only [go_sem])) (Z ?_)
    refine AF ?_
    exact lpG (ih0 a0 a1 a3 u t.names t.types t.levels (IntKind.i64.wrap (g+1)) _ h) [] [(1000001500,1000001500),(1000001501,1000001501)]
   ·refine AF ?_
    cases h
    refine Aj (.done _) [] [] ?_
    simp only [go_sem]
theorem Pb (a0 a1 a2 a3 r) (h:HK a0 a1 a2 a3=some r):AG Tryz.prog 98 [.rop [.ro (a0.datas.map Data.ds),.ro (a0.defs.map Def.ds)] 0,.rop [.int .i64 a1.kind,.int .i64 a1.num,.str a1.name,.int .i64 a1.typ.kind,.str a1.typ.name,.ro (a1.typ.kids.map TType.ds),.ro (a1.names.map strD),.ro (a1.kids.map Term.ds)] 0,.agg [.ro (a2.names.map strD),.ro (a2.types.map TType.ds),.ro (a2.levels.map G0)],.int .i64 a3] [] [] (.agg [.ro (r.names.map strD),.ro (r.types.map TType.ds),.ro (r.levels.map G0)]) [] [] :=by
 unfold HK at h
 refine agF Tryz.func98 mixed (h:=Z ?_)
 refine AF ?_
 refine AW [] .fin (by kernel_rfl) (Z ?_)
 replace h:=AB h; obtain⟨u,w,h⟩:=h
 refine AH (Cz _ _ _ w) (Z ?_)
 refine AF ?_
 exact loG (RP fuel a0 a1 a3 u a2.names a2.types a2.levels 0 _ h) [] [(1000001500,1000),(1000001501,1001)]
theorem bD (a0 r) (h:U3 a0=some r):AG Tryz.prog 68 [.str a0] [] [] (.agg [.int .i64 r.kind,.str r.name,.ro (r.kids.map TType.ds)]) [] [] :=by
 unfold U3 at h
 refine agF Tryz.func68 mixed (h:=Z ?_)
 refine AF ?_
 cases h
 refine Aj (.frzN [(0,[2])] [] _ _ (by (first|rfl|(simp only [go_sem]; rfl))) (by (first|rfl|(simp only [go_sem]; rfl))) (.done _)) [] [] ?_
 simp only [go_sem]
 all_goals try rfl
theorem Mx (n:Nat):(∀a0 a1 u r,CJ n a0 a1 u=some r→Af Tryz.prog Tryz.f69 [1,1,0,1,0] (.bool r) ⟨[(0,.ro (a0.map TType.ds)),(1,.ro (a1.map TType.ds)),(5,.int .i64 u)],[],[]⟩):=by
 induction n with
 |zero=>exact((fun _ _ _ _ h=>by rw [CJ] at h; cases h))
 | succ n ih=>
  have ih0:=ih
  ·intro a0 a1 u r h
   rw [CJ] at h
   refine AL rfl rfl (Z ?_)
   refine AT (Z ?_)
   refine AD h (fun h=>Z ?_) (fun h=>Z ?_)
   ·refine AF ?_
    refine AW [] .fin (by kernel_rfl) (Z ?_)
    replace h:=AB h; obtain⟨w,y,h⟩:=h
    refine AK y (TType.ds_len _) (Z ?_)
    replace h:=AB h; obtain⟨q,g,h⟩:=h
    refine AK g (TType.ds_len _) (Z ?_)
    replace h:=AB h; obtain⟨j,k,h⟩:=h
    refine AH (Gr fuel _ _ _ k) (Z ?_)
    refine AF ?_
    refine AD h (fun h=>Z ?_) (fun h=>Z ?_)
    ·cases h
     simp only [go_sem]
    ·refine AF ?_
     exact lpF (ih0 a0 a1 (IntKind.i64.wrap (u+1)) _ h) [] []
   ·refine AF ?_
    cases h
    simp only [go_sem]
theorem Pg (a0 a1 r) (h:F6 a0 a1=some r):AC Tryz.prog 69 [.ro (a0.map TType.ds),.ro (a1.map TType.ds)] (.bool r):=by
 unfold F6 at h
 refine acF Tryz.func69 mixed (h:=Z ?_)
 refine AD h (fun h=>Z ?_) (fun h=>Z ?_)
 ·cases h
  simp only [go_sem]
 ·refine AF ?_
  exact loF (Mx fuel a0 a1 0 _ h) [] []
theorem Lx (u:List TType) (w:Bool) (r:TType × Bool) (h:GT u w=some r):EM Tryz.prog Tryz.f31 [1,1,1,1,0,1,0,1,1,1,0,0,1] (.tup [.agg [.int .i64 r.1.kind,.str r.1.name,.ro (r.1.kids.map TType.ds)],.bool r.2]) [] [] ⟨[(8,.box 1000003500 0),(19,.own 1000003000),(234,.bool w)],[(1000003000,some ⟨List.map TType.dz u,some 3,0,true⟩)],[(1000003500,some [.int .i64 0,.str ByteArray.empty,.nils])]⟩:=by
 unfold GT at h
 refine BI rfl rfl (Z ?_)
 refine AD h (fun h=>Z ?_) (fun h=>Z ?_)
 ·cases h
  refine Aj (.frzN [(0,[0,2])] [] _ _ (by (first|rfl|(simp only [go_sem]; rfl))) (by (first|rfl|(simp only [go_sem]; rfl))) (.done _)) [] [] ?_
  simp only [go_sem]
  all_goals try rfl
 ·refine AF ?_
  replace h:=AB h; obtain⟨y,q,h⟩:=h
  refine AK q (TType.dz_len _) (Z ?_)
  refine Ai (AX q) (Z ?_)
  replace h:=AB h; obtain⟨g,j,h⟩:=h
  refine AK j (TType.ds_len _) (Z ?_)
  cases h
  refine Aj (.done _) [] [] ?_
  simp only [go_sem]
theorem TN (n:Nat):(∀a0 a1 a2 a3 r,H6 n a0 a1 a2 a3=some r→AG Tryz.prog 66 [.rop [.ro (a0.datas.map Data.ds),.ro (a0.defs.map Def.ds)] 0,.rop [.int .i64 a1.kind,.int .i64 a1.num,.str a1.name,.int .i64 a1.typ.kind,.str a1.typ.name,.ro (a1.typ.kids.map TType.ds),.ro (a1.names.map strD),.ro (a1.kids.map Term.ds)] 0,.agg [.ro (a2.names.map strD),.ro (a2.types.map TType.ds),.ro (a2.levels.map G0)],.int .i64 a3] [] [] (.tup [.agg [.int .i64 r.1.kind,.str r.1.name,.ro (r.1.kids.map TType.ds)],.bool r.2]) [] [])∧
    (∀a0 a1 a2 a3 r,BQ n a0 a1 a2 a3=some r→AG Tryz.prog 31 [.rop [.ro (a0.datas.map Data.ds),.ro (a0.defs.map Def.ds)] 0,.rop [.int .i64 a1.kind,.int .i64 a1.num,.str a1.name,.int .i64 a1.typ.kind,.str a1.typ.name,.ro (a1.typ.kids.map TType.ds),.ro (a1.names.map strD),.ro (a1.kids.map Term.ds)] 0,.agg [.ro (a2.names.map strD),.ro (a2.types.map TType.ds),.ro (a2.levels.map G0)],.int .i64 a3] [] [] (.tup [.agg [.int .i64 r.1.kind,.str r.1.name,.ro (r.1.kids.map TType.ds)],.bool r.2]) [] [])∧
    (∀a0 a1 a2 a3 u w r,Dk n a0 a1 a2 a3 u w=some r→EM Tryz.prog Tryz.f31 [1,0,1,0,1,1,1,1,1,1,1,1,1,0,1,1,0,1] (.tup [.agg [.int .i64 r.1.kind,.str r.1.name,.ro (r.1.kids.map TType.ds)],.bool r.2]) [] [] ⟨[(0,.rop [.ro (a0.datas.map Data.ds),.ro (a0.defs.map Def.ds)] 0),(1,.rop [.int .i64 a1.kind,.int .i64 a1.num,.str a1.name,.int .i64 a1.typ.kind,.str a1.typ.name,.ro (a1.typ.kids.map TType.ds),.ro (a1.names.map strD),.ro (a1.kids.map Term.ds)] 0),(3,.int .i64 a3),(6,.box 1000000500 0),(8,.box 1000000501 0),(17,.box 1000000502 0),(137,.bool w)],[],[(1000000500,some [.ro (a2.names.map strD),.ro (a2.types.map TType.ds),.ro (a2.levels.map G0)]),(1000000501,some [.int .i64 0,.str ByteArray.empty,.nils]),(1000000502,some [.int .i64 u.1.kind,.str u.1.name,.ro (u.1.kids.map TType.ds)])]⟩)∧
    (∀a0 a1 a2 a3 y q r,Bu n a0 a1 a2 a3 y q=some r→EM Tryz.prog Tryz.f31 [1,1,1,0,1,0] (.tup [.agg [.int .i64 r.1.kind,.str r.1.name,.ro (r.1.kids.map TType.ds)],.bool r.2]) [] [] ⟨[(0,.rop [.ro (a0.datas.map Data.ds),.ro (a0.defs.map Def.ds)] 0),(1,.rop [.int .i64 a1.kind,.int .i64 a1.num,.str a1.name,.int .i64 a1.typ.kind,.str a1.typ.name,.ro (a1.typ.kids.map TType.ds),.ro (a1.names.map strD),.ro (a1.kids.map Term.ds)] 0),(3,.int .i64 a3),(6,.box 1000002500 0),(8,.box 1000002501 0),(19,.own 1000002000),(20,.int .i64 q)],[(1000002000,some ⟨List.map TType.dz y,some 3,0,true⟩)],[(1000002500,some [.ro (a2.names.map strD),.ro (a2.types.map TType.ds),.ro (a2.levels.map G0)]),(1000002501,some [.int .i64 0,.str ByteArray.empty,.nils])]⟩)∧
    (∀a0 a1 a2 a3 w r,CO n a0 a1 a2 a3 w=some r→EM Tryz.prog Tryz.f66 [1,1,1,0,1] (.tup [.agg [.int .i64 r.1.kind,.str r.1.name,.ro (r.1.kids.map TType.ds)],.bool r.2]) [] [] ⟨[(0,.rop [.ro (a0.datas.map Data.ds),.ro (a0.defs.map Def.ds)] 0),(1,.rop [.int .i64 a1.kind,.int .i64 a1.num,.str a1.name,.int .i64 a1.typ.kind,.str a1.typ.name,.ro (a1.typ.kids.map TType.ds),.ro (a1.names.map strD),.ro (a1.kids.map Term.ds)] 0),(3,.int .i64 a3),(6,.box 1000000500 0),(8,.box 1000000501 0),(65,.bool w)],[],[(1000000500,some [.ro (a2.names.map strD),.ro (a2.types.map TType.ds),.ro (a2.levels.map G0)]),(1000000501,some [.int .i64 0,.str ByteArray.empty,.nils])]⟩)∧
    (∀a0 a1 a2 a3 g j k b r,Ck n a0 a1 a2 a3 g j k b=some r→EM Tryz.prog Tryz.f66 [1,1,1,1,1,0,1,0] (.tup [.agg [.int .i64 r.1.kind,.str r.1.name,.ro (r.1.kids.map TType.ds)],.bool r.2]) [] [] ⟨[(0,.rop [.ro (a0.datas.map Data.ds),.ro (a0.defs.map Def.ds)] 0),(1,.rop [.int .i64 a1.kind,.int .i64 a1.num,.str a1.name,.int .i64 a1.typ.kind,.str a1.typ.name,.ro (a1.typ.kids.map TType.ds),.ro (a1.names.map strD),.ro (a1.kids.map Term.ds)] 0),(3,.int .i64 a3),(6,.box 1000003500 0),(8,.box 1000003501 0),(14,.box 1000003502 0),(15,.int .i64 b)],[],[(1000003500,some [.ro (a2.names.map strD),.ro (a2.types.map TType.ds),.ro (a2.levels.map G0)]),(1000003501,some [.int .i64 0,.str ByteArray.empty,.nils]),(1000003502,some [.int .i64 g,.str j,.ro (k.map TType.ds)])]⟩)∧
    (∀a0 a1 a2 a3 g j k b d e r,Ea n a0 a1 a2 a3 g j k b d e=some r→EM Tryz.prog Tryz.f66 [1,1,1,1,1,0,1,0,0,1,0,0,1,1,0,1] (.tup [.agg [.int .i64 r.1.kind,.str r.1.name,.ro (r.1.kids.map TType.ds)],.bool r.2]) [] [] ⟨[(0,.rop [.ro (a0.datas.map Data.ds),.ro (a0.defs.map Def.ds)] 0),(1,.rop [.int .i64 a1.kind,.int .i64 a1.num,.str a1.name,.int .i64 a1.typ.kind,.str a1.typ.name,.ro (a1.typ.kids.map TType.ds),.ro (a1.names.map strD),.ro (a1.kids.map Term.ds)] 0),(3,.int .i64 a3),(6,.box 1000004500 0),(8,.box 1000004501 0),(14,.box 1000004502 0),(15,.int .i64 b),(17,.box 1000004503 0),(110,.bool e)],[],[(1000004500,some [.ro (a2.names.map strD),.ro (a2.types.map TType.ds),.ro (a2.levels.map G0)]),(1000004501,some [.int .i64 0,.str ByteArray.empty,.nils]),(1000004502,some [.int .i64 g,.str j,.ro (k.map TType.ds)]),(1000004503,some [.int .i64 d.1.kind,.str d.1.name,.ro (d.1.kids.map TType.ds)])]⟩):=by
 induction n with
 |zero=>exact⟨(fun _ _ _ _ _ h=>by rw [H6] at h; cases h),(fun _ _ _ _ _ h=>by rw [BQ] at h; cases h),(fun _ _ _ _ _ _ _ h=>by rw [Dk] at h; cases h),(fun _ _ _ _ _ _ _ h=>by rw [Bu] at h; cases h),(fun _ _ _ _ _ _ h=>by rw [CO] at h; cases h),(fun _ _ _ _ _ _ _ _ _ h=>by rw [Ck] at h; cases h),(fun _ _ _ _ _ _ _ _ _ _ _ h=>by rw [Ea] at h; cases h)⟩
 | succ n ih=>
  obtain⟨ih0,ih1,ih2,ih3,ih4,ih5,ih6⟩:=ih
  refine⟨?_,?_,?_,?_,?_,?_,?_⟩
  ·intro a0 a1 a2 a3 r h
   rw [H6] at h
   refine agF Tryz.func66 mixed (h:=Z ?_)
   refine AF ?_
   refine AW [false,false,false,false,false,false,false,false,false,false,false,false,false,true,true] (Tr.sq [13,14] .fin) (by kernel_rfl) (Z ?_)
   replace h:=AB h; obtain⟨i,l,h⟩:=h
   refine AK l (Term.ds_len _) (Z ?_)
   replace h:=AB h; obtain⟨t,s,h⟩:=h
   refine Ak (ih1 _ _ _ _ _ s) (by (first|rfl|(simp only [go_sem]; rfl))) (by first|rfl|(simp only [go_sem])) (Z ?_)
   refine AF ?_
   refine AW [] .fin (by kernel_rfl) (Z ?_)
   replace h:=AB h; obtain⟨o,z,h⟩:=h
   refine AK z (Term.ds_len _) (Z ?_)
   replace h:=AB h; obtain⟨u1,u2,h⟩:=h
   refine AH (Cz _ _ _ u2) (Z ?_)
   refine AF ?_
   refine AW [] .fin (by kernel_rfl) (Z ?_)
   refine Am (fun u3=>?_) (fun u3=>?_)
   ·replace h:=ifT (c:=(!t.2)) u3 h
    try simp only [go_sem]
    exact Aq (ih4 a0 a1 a2 a3 true _ h) [] [(1000000500,1000),(1000000501,1001)]
   ·replace h:=ifF (c:=(!t.2)) u3 h
    try simp only [go_sem]
    refine Am (fun u4=>?_) (fun u4=>?_)
    ·replace h:=ifT (c:=(!decide (t.1.kind =2))) u4 h
     try simp only [go_sem]
     exact Aq (ih4 a0 a1 a2 a3 true _ h) [] [(1000000500,1000),(1000000501,1001)]
    ·replace h:=ifF (c:=(!decide (t.1.kind =2))) u4 h
     try simp only [go_sem]
     replace h:=AB h; obtain⟨u5,u6,h⟩:=h
     refine AK u6 (Data.ds_len _) (Z ?_)
     exact Aq (ih4 a0 a1 a2 a3 (!sameStr t.1.name u5.name) _ h) [] [(1000000500,1000),(1000000501,1001)]
  ·intro a0 a1 a2 a3 r h
   rw [BQ] at h
   refine agF Tryz.func31 mixed (h:=Z ?_)
   refine AF ?_
   refine Am (fun u3=>?_) (fun u3=>?_)
   ·replace h:=ifT (c:=(decide (a1.kind=1))) u3 h
    try simp only [go_sem]
    refine AW [] .fin (by kernel_rfl) (Z ?_)
    replace h:=AB h; obtain⟨u7,u8,h⟩:=h
    refine AH (Jj _ _ _ u8) (Z ?_)
    refine AF ?_
    refine Am (fun u4=>?_) (fun u4=>?_)
    ·replace h:=ifT (c:=(decide (0≤u7))) u4 h
     try simp only [go_sem]
     replace h:=AB h; obtain⟨u9,u10,h⟩:=h
     refine AK u10 (TType.ds_len _) (Z ?_)
     cases h
     refine Aj (.done _) [] [] ?_
     simp only [go_sem]
    ·replace h:=ifF (c:=(decide (0≤u7))) u4 h
     try simp only [go_sem]
     refine AF ?_
     refine AW [false,false,false,false,false,false,false,false,false,false,false,false,false,false,false,false,true,true] (Tr.sq [16,17] .fin) (by kernel_rfl) (Z ?_)
     replace h:=AB h; obtain⟨u11,u12,h⟩:=h
     refine AH (KO _ _ _ u12) (Z ?_)
     replace h:=AB h; obtain⟨u13,u14,h⟩:=h
     refine AK u14 (Def.ds_len _) (Z ?_)
     refine AF ?_
     cases h
     refine Aj (.done _) [] [] ?_
     simp only [go_sem]
   ·replace h:=ifF (c:=(decide (a1.kind=1))) u3 h
    try simp only [go_sem]
    refine Am (fun u15=>?_) (fun u15=>?_)
    ·replace h:=ifT (c:=(decide (a1.kind=2))) u15 h
     try simp only [go_sem]
     replace h:=AB h; obtain⟨u16,u17,h⟩:=h
     refine Ak (Q1  _ u17) (by (first|rfl|(simp only [go_sem]; rfl))) (by first|rfl|(simp only [go_sem])) (Z ?_)
     refine AF ?_
     cases h
     refine Aj (.done _) [] [] ?_
     simp only [go_sem]
    ·replace h:=ifF (c:=(decide (a1.kind=2))) u15 h
     try simp only [go_sem]
     refine Am (fun u18=>?_) (fun u18=>?_)
     ·replace h:=ifT (c:=(decide (a1.kind=4))) u18 h
      try simp only [go_sem]
      refine AW [false,false,false,false,false,false,false,false,false,false,false,false,false,false,false,false,false,false,false,false,false,false,false,true,true] (Tr.sq [23,24] .fin) (by kernel_rfl) (Z ?_)
      replace h:=AB h; obtain⟨u19,u20,h⟩:=h
      refine AK u20 (Term.ds_len _) (Z ?_)
      replace h:=AB h; obtain⟨u21,u22,h⟩:=h
      refine Ak (Ih _ _ _ _ _ u22) (by (first|rfl|(simp only [go_sem]; rfl))) (by first|rfl|(simp only [go_sem])) (Z ?_)
      replace h:=AB h; obtain⟨u23,u24,h⟩:=h
      refine Ak (ih1 _ _ _ _ _ u24) (by (first|rfl|(simp only [go_sem]; rfl))) (by first|rfl|(simp only [go_sem])) (Z ?_)
      refine AF ?_
      refine AW [false,false,false,false,false,false,false,true,true] (Tr.sq [7,8] .fin) (by kernel_rfl) (Z ?_)
      replace h:=AB h; obtain⟨u25,u26,h⟩:=h
      refine Ak (XL _ _ _ u26) (by (first|rfl|(simp only [go_sem]; rfl))) (by first|rfl|(simp only [go_sem])) (Z ?_)
      refine AF ?_
      cases h
      refine Aj (.done _) [] [] ?_
      simp only [go_sem]
     ·replace h:=ifF (c:=(decide (a1.kind=4))) u18 h
      try simp only [go_sem]
      refine Am (fun u27=>?_) (fun u27=>?_)
      ·replace h:=ifT (c:=(decide (a1.kind=6))) u27 h
       try simp only [go_sem]
       refine AW [false,false,false,false,false,false,false,false,false,false,false,false,false,false,true,true] (Tr.sq [14,15] .fin) (by kernel_rfl) (Z ?_)
       replace h:=AB h; obtain⟨u28,u29,h⟩:=h
       refine AK u29 (Term.ds_len _) (Z ?_)
       replace h:=AB h; obtain⟨u30,u31,h⟩:=h
       refine Ak (ih1 _ _ _ _ _ u31) (by (first|rfl|(simp only [go_sem]; rfl))) (by first|rfl|(simp only [go_sem])) (Z ?_)
       refine AF ?_
       replace h:=AB h; obtain⟨u32,u33,h⟩:=h
       refine Ak (Va _ _ u33) (by (first|rfl|(simp only [go_sem]; rfl))) (by first|rfl|(simp only [go_sem])) (Z ?_)
       refine AF ?_
       cases h
       refine Aj (.done _) [] [] ?_
       simp only [go_sem]
      ·replace h:=ifF (c:=(decide (a1.kind=6))) u27 h
       try simp only [go_sem]
       refine Am (fun u34=>?_) (fun u34=>?_)
       ·replace h:=ifT (c:=(decide (a1.kind=7))) u34 h
        try simp only [go_sem]
        refine AW [false,false,false,false,false,false,false,false,false,false,false,false,false,true,true] (Tr.sq [13,14] .fin) (by kernel_rfl) (Z ?_)
        replace h:=AB h; obtain⟨u35,u36,h⟩:=h
        refine AK u36 (Term.ds_len _) (Z ?_)
        replace h:=AB h; obtain⟨u37,u38,h⟩:=h
        refine Ak (ih1 _ _ _ _ _ u38) (by (first|rfl|(simp only [go_sem]; rfl))) (by first|rfl|(simp only [go_sem])) (Z ?_)
        refine AF ?_
        replace h:=AB h; obtain⟨u,u39,h⟩:=h
        refine Ak (Np _ _ u39) (by (first|rfl|(simp only [go_sem]; rfl))) (by first|rfl|(simp only [go_sem])) (Z ?_)
        refine AF ?_
        refine Am (fun u40=>?_) (fun u40=>?_)
        ·replace h:=ifT (c:=(!u37.2)) u40 h
         try simp only [go_sem]
         exact Aq (ih2 a0 a1 a2 a3 u true _ h) [] [(1000000500,1000),(1000000501,1001),(1000000502,18005)]
        ·replace h:=ifF (c:=(!u37.2)) u40 h
         try simp only [go_sem]
         exact Aq (ih2 a0 a1 a2 a3 u (!u.2) _ h) [] [(1000000500,1000),(1000000501,1001),(1000000502,18005)]
       ·replace h:=ifF (c:=(decide (a1.kind=7))) u34 h
        try simp only [go_sem]
        refine AD h (fun h=>Z ?_) (fun h=>Z ?_)
        ·replace h:=AB h; obtain⟨u41,u42,h⟩:=h
         refine Ak (ih0 _ _ _ _ _ u42) (by (first|rfl|(simp only [go_sem]; rfl))) (by first|rfl|(simp only [go_sem])) (Z ?_)
         refine AF ?_
         cases h
         refine Aj (.done _) [] [] ?_
         simp only [go_sem]
        ·refine AF ?_
         refine AF ?_
         refine D9 (Iz rfl rfl (ih3 a0 a1 a2 a3 [] 0 _ h):) (.one ⟨_,.lit 19 2000000000 24000 0 3 true [] _ _ (by (first|rfl|(simp only [go_sem]; rfl))) (by simp only [go_sem]; rfl) (by (first|rfl|(simp only [go_sem]; rfl))) (by (first|rfl|(simp only [go_sem]; rfl))) (by decide) (by decide) (by simp only [go_sem]) (.done _),[(1000002000,2000000000)],[(1000002500,1000),(1000002501,1001)],?_⟩)
         simp only [go_sem]
         all_goals try rfl
  ·intro a0 a1 a2 a3 u w r h
   rw [Dk] at h
   refine BI rfl rfl (Z ?_)
   refine AD h (fun h=>Z ?_) (fun h=>Z ?_)
   ·cases h
    refine Aj (.frzN [(0,[0,2])] [] _ _ (by (first|rfl|(simp only [go_sem]; rfl))) (by (first|rfl|(simp only [go_sem]; rfl))) (.done _)) [] [] ?_
    simp only [go_sem]
    all_goals try rfl
   ·refine AF ?_
    refine AW [false,false,false,false,false,false,false,false,false,false,false,false,false,false,false,false,false,false,true,true] (Tr.sq [18,19] .fin) (by kernel_rfl) (Z ?_)
    replace h:=AB h; obtain⟨u43,u44,h⟩:=h
    refine AK u44 (Term.ds_len _) (Z ?_)
    replace h:=AB h; obtain⟨u45,u46,h⟩:=h
    refine Ak (Ih _ _ _ _ _ u46) (by (first|rfl|(simp only [go_sem]; rfl))) (by first|rfl|(simp only [go_sem])) (Z ?_)
    replace h:=AB h; obtain⟨u47,u48,h⟩:=h
    refine Ak (ih1 _ _ _ _ _ u48) (by (first|rfl|(simp only [go_sem]; rfl))) (by first|rfl|(simp only [go_sem])) (Z ?_)
    refine AF ?_
    cases h
    refine Aj (.done _) [] [] ?_
    simp only [go_sem]
  ·intro a0 a1 a2 a3 y q r h
   rw [Bu] at h
   refine BI rfl rfl (Z ?_)
   refine AT (Z ?_)
   refine AD h (fun h=>Z ?_) (fun h=>Z ?_)
   ·refine AF ?_
    refine AW [false,false,false,false,false,false,false,false,false,false,false,false,false,false,true,true] (Tr.sq [14,15] .fin) (by kernel_rfl) (Z ?_)
    replace h:=AB h; obtain⟨u49,u50,h⟩:=h
    refine AK u50 (Term.ds_len _) (Z ?_)
    replace h:=AB h; obtain⟨u51,u52,h⟩:=h
    refine Ak (ih1 _ _ _ _ _ u52) (by (first|rfl|(simp only [go_sem]; rfl))) (by first|rfl|(simp only [go_sem])) (Z ?_)
    refine AF ?_
    refine AD h (fun h=>Z ?_) (fun h=>Z ?_)
    ·cases h
     refine Aj (.frzN [(0,[0,2])] [] _ _ (by (first|rfl|(simp only [go_sem]; rfl))) (by (first|rfl|(simp only [go_sem]; rfl))) (.done _)) [] [] ?_
     simp only [go_sem]
     all_goals try rfl
    ·refine AF ?_
     replace h:=AB h; obtain⟨u53,u54,h⟩:=h
     have hq_:=Ca u54
     obtain⟨hv31003a,hv31003b⟩:=hq_
     refine G9 true (Z ?_)
     refine Bl (by refine⟨?_,?_⟩ <;> (try simp only [List.length_map,List.length_append,List.length_cons,List.length_nil] at*) <;> (try unfold maxLen) <;> omega) (Z ?_)
     refine Av (u53.map TType.dz) (by rw [← hv31003b]; simp only [List.map_append,List.map_cons,List.map_nil,List.nil_append,List.append_nil,go_sem,TType.ds_eq,TType.dz_eq]) (Z ?_)
     refine AF ?_
     exact lpG (ih3 a0 a1 a2 a3 u53 (IntKind.i64.wrap (q+1)) _ h) [(1000002000,496048)] [(1000002500,1000002500),(1000002501,1000002501)]
   ·refine AF ?_
    refine AD h (fun h=>Z ?_) (fun h=>Z ?_)
    ·replace h:=AB h; obtain⟨u55,u56,h⟩:=h
     replace h:=AB h; obtain⟨u57,u58,h⟩:=h
     refine AW [false,false,false,false,false,false,false,true,true,true,true,true,true,true,true] (.br 7 (.br 8 (.br 9 (.br 10 (.br 11 (Tr.sq [12,13,14] .fin) (.br 13 (Tr.sq [11,12,14] .fin) .stop)) (.br 13 (Tr.sq [10,11,12,14] .fin) .stop)) (.br 13 (Tr.sq [9,10,11,12,14] .fin) .stop)) (.br 13 (Tr.sq [8,9,10,11,12,14] .fin) .stop)) (.br 13 (Tr.sq [7,8,9,10,11,12,14] .fin) .stop)) (by kernel_rfl) (Z ?_)
     refine Ak (Q1  _ u56) (by (first|rfl|(simp only [go_sem]; rfl))) (by first|rfl|(simp only [go_sem])) (Z ?_)
     refine AK u58 (TType.dz_len _) (Z ?_)
     refine Ai (AX u58) ?_
     try simp only [go_sem]
     refine Au (Z ?_) (Z ?_)
     ·refine AD h (fun h=>?_) (fun h=>?_)
      ·replace h:=AB h; obtain⟨u59,u60,h⟩:=h
       try simp only [go_sem]
       refine Au (Z ?_) (Z ?_)
       ·refine AK u60 (TType.dz_len _) ?_
        try simp only [go_sem]
        refine Au ?_ ?_
        ·try simp only [go_sem]
         refine Au (Z ?_) (Z ?_)
         ·refine Ai (AX u60) ?_
          try simp only [go_sem]
          refine Au (Z ?_) (Z ?_)
          ·refine AF ?_
           cases h
           refine Aj (.done _) [] [] ?_
           simp only [go_sem]
          ·refine AF ?_
           cases h
           refine Aj (.done _) [] [] ?_
           simp only [go_sem]
         ·refine Ai (AX u60) (Z ?_)
          refine AF ?_
          cases h
          refine Aj (.done _) [] [] ?_
          simp only [go_sem]
        ·try simp only [go_sem]
         refine Ai (AX u60) (Z ?_)
         refine AF ?_
         cases h
         refine Aj (.done _) [] [] ?_
         simp only [go_sem]
       ·refine AK u60 (TType.dz_len _) (Z ?_)
        refine Ai (AX u60) (Z ?_)
        refine AF ?_
        cases h
        refine Aj (.done _) [] [] ?_
        simp only [go_sem]
      ·try simp only [go_sem]
       refine Au ?_ ?_
       ·try simp only [go_sem]
        refine Au ?_ ?_
        ·try simp only [go_sem]
         refine Au ?_ ?_
         ·try simp only [go_sem]
          refine Au (Z ?_) (Z ?_)
          ·refine AF ?_
           cases h
           refine Aj (.done _) [] [] ?_
           simp only [go_sem]
          ·refine AF ?_
           cases h
           refine Aj (.done _) [] [] ?_
           simp only [go_sem]
         ·try simp only [go_sem]
          refine AF ?_
          cases h
          refine Aj (.done _) [] [] ?_
          simp only [go_sem]
        ·try simp only [go_sem]
         refine AF ?_
         cases h
         refine Aj (.done _) [] [] ?_
         simp only [go_sem]
       ·try simp only [go_sem]
        refine AF ?_
        cases h
        refine Aj (.done _) [] [] ?_
        simp only [go_sem]
     ·refine AD h (fun h=>?_) (fun h=>?_)
      ·replace h:=AB h; obtain⟨u59,u60,h⟩:=h
       try simp only [go_sem]
       refine AK u60 (TType.dz_len _) (Z ?_)
       refine Ai (AX u60) (Z ?_)
       refine AF ?_
       cases h
       refine Aj (.done _) [] [] ?_
       simp only [go_sem]
      ·try simp only [go_sem]
       refine AF ?_
       cases h
       refine Aj (.done _) [] [] ?_
       simp only [go_sem]
    ·refine AD h (fun h=>Z ?_) (fun h=>Z ?_)
     ·refine AW [] .fin (by kernel_rfl) (Z ?_)
      replace h:=AB h; obtain⟨u61,u62,h⟩:=h
      refine AK u62 (TType.dz_len _) (Z ?_)
      refine Ai (AX u62) (Z ?_)
      refine AD h (fun h=>Z ?_) (fun h=>Z ?_)
      ·exact Aq (Lx y true _ h) [(1000003000,1000002000)] [(1000003500,1000002501)]
      ·replace h:=AB h; obtain⟨u63,u64,h⟩:=h
       refine AK u64 (TType.dz_len _) (Z ?_)
       refine Ai (AX u64) (Z ?_)
       replace h:=AB h; obtain⟨u65,u66,h⟩:=h
       refine AK u66 (TType.ds_len _) (Z ?_)
       replace h:=AB h; obtain⟨u67,u68,h⟩:=h
       refine AK u68 (TType.dz_len _) (Z ?_)
       refine Ai (AX u68) (Z ?_)
       replace h:=AB h; obtain⟨u69,u70,h⟩:=h
       refine AH (Gr fuel _ _ _ u70) (Z ?_)
       exact Aq (Lx y (!u69) _ h) [(1000003000,1000002000)] [(1000003500,1000002501)]
     ·refine AD h (fun h=>Z ?_) (fun h=>Z ?_)
      ·refine AW [false,false,false,false,false,false,false,false,false,false,false,false,false,false,false,false,false,true,true] (Tr.sq [17,18] .fin) (by kernel_rfl) (Z ?_)
       replace h:=AB h; obtain⟨u71,u72,h⟩:=h
       refine AK u72 (TType.dz_len _) (Z ?_)
       refine Ai (AX u72) (Z ?_)
       replace h:=AB h; obtain⟨u73,u74,h⟩:=h
       refine AK u74 (TType.dz_len _) (Z ?_)
       refine Ai (AX u74) (Z ?_)
       refine AD h (fun h=>Z ?_) (fun h=>Z ?_)
       ·replace h:=AB h; obtain⟨u75,u76,h⟩:=h
        refine AK u76 (TType.dz_len _) (Z ?_)
        refine Ai (AX u76) (Z ?_)
        replace h:=AB h; obtain⟨u77,u78,h⟩:=h
        refine AK u78 (TType.dz_len _) (Z ?_)
        refine Ai (AX u78) (Z ?_)
        replace h:=AB h; obtain⟨u79,u80,h⟩:=h
        refine AH (Gr fuel _ _ _ u80) (Z ?_)
        refine AF ?_
        cases h
        refine Aj (.done _) [] [] ?_
        simp only [go_sem]
       ·refine AF ?_
        cases h
        refine Aj (.done _) [] [] ?_
        simp only [go_sem]
      ·refine AF ?_
       refine AW [] .fin (by kernel_rfl) (Z ?_)
       replace h:=AB h; obtain⟨u81,u82,h⟩:=h
       refine AH (Cz _ _ _ u82) (Z ?_)
       refine AF ?_
       refine AW [false,false,false,false,false,false,false,false,false,false,false,false,false,false,false,false,false,false,false,false,false,false,false,true,true] (Tr.sq [23,24] .fin) (by kernel_rfl) (Z ?_)
       replace h:=AB h; obtain⟨u83,u84,h⟩:=h
       refine AK u84 (Data.ds_len _) (Z ?_)
       replace h:=AB h; obtain⟨u85,u86,h⟩:=h
       refine Ak (bD _ _ u86) (by (first|rfl|(simp only [go_sem]; rfl))) (by first|rfl|(simp only [go_sem])) (Z ?_)
       replace h:=AB h; obtain⟨u87,u88,h⟩:=h
       refine AK u88 (Data.ds_len _) (Z ?_)
       replace h:=AB h; obtain⟨u89,u90,h⟩:=h
       refine AK u90 (Constructor.ds_len _) (Z ?_)
       replace h:=AB h; obtain⟨u91,u92,h⟩:=h
       refine AH (Pg _ _ _ u92) (Z ?_)
       refine AF ?_
       cases h
       refine Aj (.done _) [] [] ?_
       simp only [go_sem]
  ·intro a0 a1 a2 a3 w r h
   rw [CO] at h
   refine BI rfl rfl (Z ?_)
   refine Am (fun u15=>?_) (fun u15=>?_)
   ·replace h:=ifT (c:=w) u15 h
    try simp only [go_sem]
    cases h
    refine Aj (.frzN [(0,[0,2])] [] _ _ (by (first|rfl|(simp only [go_sem]; rfl))) (by (first|rfl|(simp only [go_sem]; rfl))) (.done _)) [] [] ?_
    simp only [go_sem]
    all_goals try rfl
   ·replace h:=ifF (c:=w) u15 h
    try simp only [go_sem]
    refine AF ?_
    refine AF ?_
    refine D9 (Iz rfl rfl (ih5 a0 a1 a2 a3 0 ByteArray.empty [] 1 _ h):) (.one ⟨_,.frzN [] [(6001,2)] _ _ (by (first|rfl|(simp only [go_sem]; rfl))) (by (first|rfl|(simp only [go_sem]; rfl))) (.done _),[],[(1000003500,1000000500),(1000003501,1000000501),(1000003502,6001)],?_⟩)
    simp only [go_sem]
    all_goals try rfl
  ·intro a0 a1 a2 a3 g j k b r h
   rw [Ck] at h
   refine BI rfl rfl (Z ?_)
   refine AT (Z ?_)
   refine Am (fun u18=>?_) (fun u18=>?_)
   ·replace h:=ifT (c:=(decide (b<(a1.kids.length:Int)))) u18 h
    try simp only [go_sem]
    refine AF ?_
    replace h:=AB h; obtain⟨u93,u94,h⟩:=h
    refine AK u94 (Term.ds_len _) (Z ?_)
    refine AW [false,false,false,false,false,false,false,false,false,false,false,false,false,false,false,false,false,true,true] (Tr.sq [17,18] .fin) (by kernel_rfl) (Z ?_)
    replace h:=AB h; obtain⟨u19,u20,h⟩:=h
    refine AK u20 (Term.ds_len _) (Z ?_)
    replace h:=AB h; obtain⟨u95,u96,h⟩:=h
    refine Ak (Pb _ _ _ _ _ u96) (by (first|rfl|(simp only [go_sem]; rfl))) (by first|rfl|(simp only [go_sem])) (Z ?_)
    replace h:=AB h; obtain⟨d,u97,h⟩:=h
    refine Ak (ih1 _ _ _ _ _ u97) (by (first|rfl|(simp only [go_sem]; rfl))) (by first|rfl|(simp only [go_sem])) (Z ?_)
    refine AF ?_
    refine Am (fun u27=>?_) (fun u27=>?_)
    ·replace h:=ifT (c:=(!d.2)) u27 h
     try simp only [go_sem]
     exact Aq (ih6 a0 a1 a2 a3 g j k b d true _ h) [] [(1000004500,1000003500),(1000004501,1000003501),(1000004502,1000003502),(1000004503,11016)]
    ·replace h:=ifF (c:=(!d.2)) u27 h
     try simp only [go_sem]
     refine Am (fun u34=>?_) (fun u34=>?_)
     ·replace h:=ifT (c:=(decide (1<b))) u34 h
      try simp only [go_sem]
      replace h:=AB h; obtain⟨u98,u99,h⟩:=h
      refine AH (Gr fuel _ _ _ u99) (Z ?_)
      exact Aq (ih6 a0 a1 a2 a3 g j k b d (!u98) _ h) [] [(1000004500,1000003500),(1000004501,1000003501),(1000004502,1000003502),(1000004503,11016)]
     ·replace h:=ifF (c:=(decide (1<b))) u34 h
      try simp only [go_sem]
      exact Aq (ih6 a0 a1 a2 a3 g j k b d false _ h) [] [(1000004500,1000003500),(1000004501,1000003501),(1000004502,1000003502),(1000004503,11016)]
   ·replace h:=ifF (c:=(decide (b<(a1.kids.length:Int)))) u18 h
    try simp only [go_sem]
    refine AF ?_
    cases h
    refine Aj (.done _) [] [] ?_
    simp only [go_sem]
  ·intro a0 a1 a2 a3 g j k b d e r h
   rw [Ea] at h
   refine BI rfl rfl (Z ?_)
   refine Am (fun u40=>?_) (fun u40=>?_)
   ·replace h:=ifT (c:=e) u40 h
    try simp only [go_sem]
    cases h
    refine Aj (.frzN [(0,[0,2])] [] _ _ (by (first|rfl|(simp only [go_sem]; rfl))) (by (first|rfl|(simp only [go_sem]; rfl))) (.done _)) [] [] ?_
    simp only [go_sem]
    all_goals try rfl
   ·replace h:=ifF (c:=e) u40 h
    try simp only [go_sem]
    refine AF ?_
    refine AF ?_
    exact lpG (ih5 a0 a1 a2 a3 d.1.kind d.1.name d.1.kids (IntKind.i64.wrap (b+1)) _ h) [] [(1000003500,1000004500),(1000003501,1000004501),(1000003502,1000004502)]
def Ll (n:Nat):=(TN n).2.1
theorem Ph (n:Nat):(∀a0 u r,DI n a0 u=some r→Af Tryz.prog Tryz.f21 [1,1,0,1,0] (.int .i64 r) ⟨[(0,.rop [.ro (a0.datas.map Data.ds),.ro (a0.defs.map Def.ds)] 0),(4,.int .i64 u)],[],[]⟩)∧
    (∀a0 u w r,Ff n a0 u w=some r→Af Tryz.prog Tryz.f21 [1,1,0,1,0,0,1,0,0,1,1] (.int .i64 r) ⟨[(0,.rop [.ro (a0.datas.map Data.ds),.ro (a0.defs.map Def.ds)] 0),(4,.int .i64 u),(48,.bool w)],[],[]⟩):=by
 induction n with
 |zero=>exact⟨(fun _ _ _ h=>by rw [DI] at h; cases h),(fun _ _ _ _ h=>by rw [Ff] at h; cases h)⟩
 | succ n ih=>
  obtain⟨ih0,ih1⟩:=ih
  refine⟨?_,?_⟩
  ·intro a0 u r h
   rw [DI] at h
   refine AL rfl rfl (Z ?_)
   refine AT (Z ?_)
   refine AD h (fun h=>Z ?_) (fun h=>Z ?_)
   ·refine AF ?_
    replace h:=AB h; obtain⟨y,q,h⟩:=h
    refine AK q (Def.ds_len _) (Z ?_)
    replace h:=AB h; obtain⟨g,j,h⟩:=h
    refine Ak (dI (Ll fuel _ _ _ _ _ j) (.cons (.refl _) (.cons (.rop rfl) (.cons (.refl _) (.cons (.refl _) .nil))))) (by (first|rfl|(simp only [go_sem]; rfl))) (by first|rfl|(simp only [go_sem])) (Z ?_)
    refine AF ?_
    refine AW [] .fin (by kernel_rfl) (Z ?_)
    refine AD h (fun h=>Z ?_) (fun h=>Z ?_)
    ·exact AU (ih1 a0 u true _ h) [] []
    ·replace h:=AB h; obtain⟨k,b,h⟩:=h
     refine AK b (Def.ds_len _) (Z ?_)
     replace h:=AB h; obtain⟨d,c,h⟩:=h
     refine AH (Gr fuel _ _ _ c) (Z ?_)
     exact AU (ih1 a0 u (!d) _ h) [] []
   ·refine AF ?_
    cases h
    simp only [go_sem]
  ·intro a0 u w r h
   rw [Ff] at h
   refine AL rfl rfl (Z ?_)
   refine AD h (fun h=>Z ?_) (fun h=>Z ?_)
   ·cases h
    simp only [go_sem]
   ·refine AF ?_
    exact lpF (ih0 a0 (IntKind.i64.wrap (u+1)) _ h) [] []
def Qa (n:Nat):=(Ph n).1
theorem Tk (a0 r) (h:Ja a0=some r):AC Tryz.prog 21 [.rop (TProgram.avs a0) 0] (.int .i64 r):=by
 unfold Ja at h
 refine acF Tryz.func21 mixed (h:=Z ?_)
 replace h:=AB h; obtain⟨u,w,h⟩:=h
 refine AH (Nm _ _ w) (Z ?_)
 refine AF ?_
 refine AD h (fun h=>Z ?_) (fun h=>Z ?_)
 ·cases h
  simp only [go_sem]
 ·refine AF ?_
  exact loF (Qa fuel a0 0 _ h) [] []
theorem Pi (n:Nat):(∀a0 r,F7 n a0=some r→AC Tryz.prog 93 [.agg (TType.avs a0)] (.agg (TType.rv r)))∧
    (∀a0 r,GU n a0=some r→AC Tryz.prog 132 [.ro (a0.map TType.ds)] (.ow (some 3) (r.map TType.ds)))∧
    (∀a0 u w r,FN n a0 u w=some r→Af Tryz.prog Tryz.f132 [1,1,0,1,0] (.ow (some 3) (r.map TType.ds)) ⟨[(0,.ro (a0.map TType.ds)),(3,.own 1000001000),(4,.int .i64 w)],[(1000001000,some ⟨List.map TType.ds u,some 3,0,false⟩)],[]⟩):=by
 induction n with
 |zero=>exact⟨(fun _ _ h=>by rw [F7] at h; cases h),(fun _ _ h=>by rw [GU] at h; cases h),(fun _ _ _ _ h=>by rw [FN] at h; cases h)⟩
 | succ n ih=>
  obtain⟨ih0,ih1,ih2⟩:=ih
  refine⟨?_,?_,?_⟩
  ·intro a0 r h
   rw [F7] at h
   refine acF Tryz.func93 mixed (h:=Z ?_)
   refine AF ?_
   refine AF ?_
   replace h:=AB h; obtain⟨y,q,h⟩:=h
   refine AH (ih1 _ _ q) (Z ?_)
   refine AF ?_
   cases h
   simp only [go_sem]
  ·intro a0 r h
   rw [GU] at h
   refine acF Tryz.func132 mixed (h:=Z ?_)
   replace h:=AB h; obtain⟨g,j,h⟩:=h
   have hq_:=Ki j
   obtain⟨hv2002a,hv2002b,hv2002c⟩:=hq_
   refine Bl (by refine⟨?_,?_,?_⟩ <;> omega) (Z ?_)
   refine Av (g.map TType.ds) (by rw [← hv2002c]; simp only [List.map_replicate,go_sem,TType.ds_eq]) (Z ?_)
   refine AF ?_
   exact loF (ih2 a0 g 0 _ h) [(1000001000,32032)] []
  ·intro a0 u w r h
   rw [FN] at h
   refine AL rfl rfl (Z ?_)
   refine AT (Z ?_)
   refine AD h (fun h=>Z ?_) (fun h=>Z ?_)
   ·refine AF ?_
    replace h:=AB h; obtain⟨k,b,h⟩:=h
    refine AK b (TType.ds_len _) (Z ?_)
    replace h:=AB h; obtain⟨d,c,h⟩:=h
    refine AH (ih0 _ _ c) (Z ?_)
    replace h:=AB h; obtain⟨e,i,h⟩:=h
    refine AK i (TType.ds_len _) (Z ?_)
    replace h:=AB h; obtain⟨l,t,h⟩:=h
    refine Ai (AX i) (Z ?_)
    refine Av (l.map TType.ds) (by rw [← Al t]; simp only [List.map_set,go_sem,TType.ds_eq]) (Z ?_)
    refine AF ?_
    exact lpF (ih2 a0 l (IntKind.i64.wrap (w+1)) _ h) [(1000001000,1000001000)] []
   ·refine AF ?_
    cases h
    simp only [go_sem]
def Q2 (n:Nat):=(Pi n).1
def Vb (n:Nat):=(Pi n).2.1
theorem OZ (a0 r) (h:EG a0=some r):AC Tryz.prog 131 [.agg (Constructor.avs a0)] (.agg (Constructor.rv r)):=by
 unfold EG at h
 refine acF Tryz.func131 mixed (h:=Z ?_)
 refine AF ?_
 refine AF ?_
 replace h:=AB h; obtain⟨u,w,h⟩:=h
 refine AH (Vb fuel _ _ w) (Z ?_)
 refine AF ?_
 cases h
 simp only [go_sem]
theorem Ln (n:Nat):(∀a0 u w r,CF n a0 u w=some r→Af Tryz.prog Tryz.f92 [1,1,0,1,0] (.ow (some 2) (r.map Constructor.ds)) ⟨[(0,.ro (a0.map Constructor.ds)),(3,.own 1000001000),(4,.int .i64 w)],[(1000001000,some ⟨List.map Constructor.ds u,some 2,0,false⟩)],[]⟩):=by
 induction n with
 |zero=>exact((fun _ _ _ _ h=>by rw [CF] at h; cases h))
 | succ n ih=>
  have ih0:=ih
  ·intro a0 u w r h
   rw [CF] at h
   refine AL rfl rfl (Z ?_)
   refine AT (Z ?_)
   refine AD h (fun h=>Z ?_) (fun h=>Z ?_)
   ·refine AF ?_
    replace h:=AB h; obtain⟨y,q,h⟩:=h
    refine AK q (Constructor.ds_len _) (Z ?_)
    replace h:=AB h; obtain⟨g,j,h⟩:=h
    refine AH (OZ _ _ j) (Z ?_)
    replace h:=AB h; obtain⟨k,b,h⟩:=h
    refine AK b (Constructor.ds_len _) (Z ?_)
    replace h:=AB h; obtain⟨d,c,h⟩:=h
    refine Ai (AX b) (Z ?_)
    refine Av (d.map Constructor.ds) (by rw [← Al c]; simp only [List.map_set,go_sem,Constructor.ds_eq]) (Z ?_)
    refine AF ?_
    exact lpF (ih0 a0 d (IntKind.i64.wrap (w+1)) _ h) [(1000001000,1000001000)] []
   ·refine AF ?_
    cases h
    simp only [go_sem]
theorem NW (a0 r) (h:Ew a0=some r):AC Tryz.prog 92 [.ro (a0.map Constructor.ds)] (.ow (some 2) (r.map Constructor.ds)):=by
 unfold Ew at h
 refine acF Tryz.func92 mixed (h:=Z ?_)
 replace h:=AB h; obtain⟨u,w,h⟩:=h
 have hq_:=Ki w
 obtain⟨hv2002a,hv2002b,hv2002c⟩:=hq_
 refine Bl (by refine⟨?_,?_,?_⟩ <;> omega) (Z ?_)
 refine Av (u.map Constructor.ds) (by rw [← hv2002c]; simp only [List.map_replicate,go_sem,Constructor.ds_eq]) (Z ?_)
 refine AF ?_
 exact loF (Ln fuel a0 u 0 _ h) [(1000001000,32032)] []
theorem XM (a0 r) (h:Ks a0=some r):AC Tryz.prog 45 [.agg (Data.avs a0)] (.agg (Data.rv r)):=by
 unfold Ks at h
 refine acF Tryz.func45 mixed (h:=Z ?_)
 refine AF ?_
 refine AF ?_
 replace h:=AB h; obtain⟨u,w,h⟩:=h
 refine AH (NW _ _ w) (Z ?_)
 refine AF ?_
 cases h
 simp only [go_sem]
theorem RQ (n:Nat):(∀a0 u w r,FO n a0 u w=some r→Af Tryz.prog Tryz.f22 [1,1,0,1,0] (.ow (some 2) (r.map Data.ds)) ⟨[(0,.ro (a0.map Data.ds)),(3,.own 1000001000),(4,.int .i64 w)],[(1000001000,some ⟨List.map Data.ds u,some 2,0,false⟩)],[]⟩):=by
 induction n with
 |zero=>exact((fun _ _ _ _ h=>by rw [FO] at h; cases h))
 | succ n ih=>
  have ih0:=ih
  ·intro a0 u w r h
   rw [FO] at h
   refine AL rfl rfl (Z ?_)
   refine AT (Z ?_)
   refine AD h (fun h=>Z ?_) (fun h=>Z ?_)
   ·refine AF ?_
    replace h:=AB h; obtain⟨y,q,h⟩:=h
    refine AK q (Data.ds_len _) (Z ?_)
    replace h:=AB h; obtain⟨g,j,h⟩:=h
    refine AH (XM _ _ j) (Z ?_)
    replace h:=AB h; obtain⟨k,b,h⟩:=h
    refine AK b (Data.ds_len _) (Z ?_)
    replace h:=AB h; obtain⟨d,c,h⟩:=h
    refine Ai (AX b) (Z ?_)
    refine Av (d.map Data.ds) (by rw [← Al c]; simp only [List.map_set,go_sem,Data.ds_eq]) (Z ?_)
    refine AF ?_
    exact lpF (ih0 a0 d (IntKind.i64.wrap (w+1)) _ h) [(1000001000,1000001000)] []
   ·refine AF ?_
    cases h
    simp only [go_sem]
theorem Vc (a0 r) (h:Kt a0=some r):AC Tryz.prog 22 [.ro (a0.map Data.ds)] (.ow (some 2) (r.map Data.ds)):=by
 unfold Kt at h
 refine acF Tryz.func22 mixed (h:=Z ?_)
 replace h:=AB h; obtain⟨u,w,h⟩:=h
 have hq_:=Ki w
 obtain⟨hv2002a,hv2002b,hv2002c⟩:=hq_
 refine Bl (by refine⟨?_,?_,?_⟩ <;> omega) (Z ?_)
 refine Av (u.map Data.ds) (by rw [← hv2002c]; simp only [List.map_replicate,go_sem,Data.ds_eq]) (Z ?_)
 refine AF ?_
 exact loF (RQ fuel a0 u 0 _ h) [(1000001000,32032)] []
theorem Pj (n:Nat):(∀a0 u w r,DU n a0 u w=some r→Af Tryz.prog Tryz.f133 [1,1,0,1,0] (.ow (some 1) (r.map strD)) ⟨[(0,.ro (a0.map strD)),(3,.own 1000001000),(4,.int .i64 w)],[(1000001000,some ⟨List.map strD u,some 1,0,false⟩)],[]⟩):=by
 induction n with
 |zero=>exact((fun _ _ _ _ h=>by rw [DU] at h; cases h))
 | succ n ih=>
  have ih0:=ih
  ·intro a0 u w r h
   rw [DU] at h
   refine AL rfl rfl (Z ?_)
   refine AT (Z ?_)
   refine AD h (fun h=>Z ?_) (fun h=>Z ?_)
   ·refine AF ?_
    replace h:=AB h; obtain⟨y,q,h⟩:=h
    refine AK q rfl (Z ?_)
    replace h:=AB h; obtain⟨g,j,h⟩:=h
    refine AK j rfl (Z ?_)
    replace h:=AB h; obtain⟨k,b,h⟩:=h
    refine Ai (AX j) (Z ?_)
    refine Av (k.map strD) (by rw [← Al b]; simp only [List.map_set,go_sem,slD]) (Z ?_)
    refine AF ?_
    exact lpF (ih0 a0 k (IntKind.i64.wrap (w+1)) _ h) [(1000001000,1000001000)] []
   ·refine AF ?_
    cases h
    simp only [go_sem]
theorem TO (a0 r) (h:Ib a0=some r):AC Tryz.prog 133 [.ro (a0.map strD)] (.ow (some 1) (r.map strD)):=by
 unfold Ib at h
 refine acF Tryz.func133 mixed (h:=Z ?_)
 replace h:=AB h; obtain⟨u,w,h⟩:=h
 have hq_:=Ki w
 obtain⟨hv2002a,hv2002b,hv2002c⟩:=hq_
 refine Bl (by refine⟨?_,?_,?_⟩ <;> omega) (Z ?_)
 refine Av (u.map strD) (by rw [← hv2002c]; simp only [List.map_replicate,go_sem,slD]) (Z ?_)
 refine AF ?_
 exact loF (Pj fuel a0 u 0 _ h) [(1000001000,32032)] []
theorem Tm (n:Nat):(∀a0 r,JH n a0=some r→AC Tryz.prog 134 [.ro (a0.map Term.ds)] (.ow (some 8) (r.map Term.ds)))∧
    (∀a0 u w r,FP n a0 u w=some r→Af Tryz.prog Tryz.f134 [1,1,0,1,0] (.ow (some 8) (r.map Term.ds)) ⟨[(0,.ro (a0.map Term.ds)),(3,.own 1000001000),(4,.int .i64 w)],[(1000001000,some ⟨List.map Term.ds u,some 8,0,false⟩)],[]⟩)∧
    (∀a0 r,Gj n a0=some r→AC Tryz.prog 94 [.agg (Term.avs a0)] (.agg (Term.rv r))):=by
 induction n with
 |zero=>exact⟨(fun _ _ h=>by rw [JH] at h; cases h),(fun _ _ _ _ h=>by rw [FP] at h; cases h),(fun _ _ h=>by rw [Gj] at h; cases h)⟩
 | succ n ih=>
  obtain⟨ih0,ih1,ih2⟩:=ih
  refine⟨?_,?_,?_⟩
  ·intro a0 r h
   rw [JH] at h
   refine acF Tryz.func134 mixed (h:=Z ?_)
   replace h:=AB h; obtain⟨y,q,h⟩:=h
   have hq_:=Ki q
   obtain⟨hv2002a,hv2002b,hv2002c⟩:=hq_
   refine Bl (by refine⟨?_,?_,?_⟩ <;> omega) (Z ?_)
   refine Av (y.map Term.ds) (by rw [← hv2002c]; simp only [List.map_replicate,go_sem,Term.ds_eq]) (Z ?_)
   refine AF ?_
   exact loF (ih1 a0 y 0 _ h) [(1000001000,32032)] []
  ·intro a0 u w r h
   rw [FP] at h
   refine AL rfl rfl (Z ?_)
   refine AT (Z ?_)
   refine AD h (fun h=>Z ?_) (fun h=>Z ?_)
   ·refine AF ?_
    replace h:=AB h; obtain⟨g,j,h⟩:=h
    refine AK j (Term.ds_len _) (Z ?_)
    replace h:=AB h; obtain⟨k,b,h⟩:=h
    refine AH (ih2 _ _ b) (Z ?_)
    replace h:=AB h; obtain⟨d,c,h⟩:=h
    refine AK c (Term.ds_len _) (Z ?_)
    replace h:=AB h; obtain⟨e,i,h⟩:=h
    refine Ai (AX c) (Z ?_)
    refine Av (e.map Term.ds) (by rw [← Al i]; simp only [List.map_set,go_sem,Term.ds_eq]) (Z ?_)
    refine AF ?_
    exact lpF (ih1 a0 e (IntKind.i64.wrap (w+1)) _ h) [(1000001000,1000001000)] []
   ·refine AF ?_
    cases h
    simp only [go_sem]
  ·intro a0 r h
   rw [Gj] at h
   refine acF Tryz.func94 mixed (h:=Z ?_)
   refine AF ?_
   refine AF ?_
   replace h:=AB h; obtain⟨l,t,h⟩:=h
   refine AH (Q2 fuel _ _ t) (Z ?_)
   refine AF ?_
   replace h:=AB h; obtain⟨s,o,h⟩:=h
   refine AH (TO _ _ o) (Z ?_)
   refine AF ?_
   replace h:=AB h; obtain⟨z,u1,h⟩:=h
   refine AH (ih0 _ _ u1) (Z ?_)
   refine AF ?_
   cases h
   simp only [go_sem]
def XN (n:Nat):=(Tm n).2.2
theorem Yc (a0 r) (h:NE a0=some r):AC Tryz.prog 46 [.agg (Def.avs a0)] (.agg (Def.rv r)):=by
 unfold NE at h
 refine acF Tryz.func46 mixed (h:=Z ?_)
 refine AF ?_
 refine AF ?_
 replace h:=AB h; obtain⟨u,w,h⟩:=h
 refine AH (Q2 fuel _ _ w) (Z ?_)
 refine AF ?_
 replace h:=AB h; obtain⟨y,q,h⟩:=h
 refine AH (XN fuel _ _ q) (Z ?_)
 refine AF ?_
 cases h
 simp only [go_sem]
theorem TP (n:Nat):(∀a0 u w r,F8 n a0 u w=some r→Af Tryz.prog Tryz.f23 [1,1,0,1,0] (.ow (some 12) (r.map Def.ds)) ⟨[(0,.ro (a0.map Def.ds)),(3,.own 1000001000),(4,.int .i64 w)],[(1000001000,some ⟨List.map Def.ds u,some 12,0,false⟩)],[]⟩):=by
 induction n with
 |zero=>exact((fun _ _ _ _ h=>by rw [F8] at h; cases h))
 | succ n ih=>
  have ih0:=ih
  ·intro a0 u w r h
   rw [F8] at h
   refine AL rfl rfl (Z ?_)
   refine AT (Z ?_)
   refine AD h (fun h=>Z ?_) (fun h=>Z ?_)
   ·refine AF ?_
    replace h:=AB h; obtain⟨y,q,h⟩:=h
    refine AK q (Def.ds_len _) (Z ?_)
    replace h:=AB h; obtain⟨g,j,h⟩:=h
    refine AH (Yc _ _ j) (Z ?_)
    replace h:=AB h; obtain⟨k,b,h⟩:=h
    refine AK b (Def.ds_len _) (Z ?_)
    replace h:=AB h; obtain⟨d,c,h⟩:=h
    refine Ai (AX b) (Z ?_)
    refine Av (d.map Def.ds) (by rw [← Al c]; simp only [List.map_set,go_sem,Def.ds_eq]) (Z ?_)
    refine AF ?_
    exact lpF (ih0 a0 d (IntKind.i64.wrap (w+1)) _ h) [(1000001000,1000001000)] []
   ·refine AF ?_
    cases h
    simp only [go_sem]
theorem XO (a0 r) (h:MZ a0=some r):AC Tryz.prog 23 [.ro (a0.map Def.ds)] (.ow (some 12) (r.map Def.ds)):=by
 unfold MZ at h
 refine acF Tryz.func23 mixed (h:=Z ?_)
 replace h:=AB h; obtain⟨u,w,h⟩:=h
 have hq_:=Ki w
 obtain⟨hv2002a,hv2002b,hv2002c⟩:=hq_
 refine Bl (by refine⟨?_,?_,?_⟩ <;> omega) (Z ?_)
 refine Av (u.map Def.ds) (by rw [← hv2002c]; simp only [List.map_replicate,go_sem,Def.ds_eq]) (Z ?_)
 refine AF ?_
 exact loF (TP fuel a0 u 0 _ h) [(1000001000,32032)] []
theorem D8 (a0 r) (h:Cd a0=some r):AC Tryz.prog 8 [.agg (TProgram.avs a0)] (.agg (TProgram.rv r)):=by
 unfold Cd at h
 refine acF Tryz.func8 mixed (h:=Z ?_)
 refine AF ?_
 refine AF ?_
 replace h:=AB h; obtain⟨u,w,h⟩:=h
 refine AH (Vc _ _ w) (Z ?_)
 refine AF ?_
 replace h:=AB h; obtain⟨y,q,h⟩:=h
 refine AH (XO _ _ q) (Z ?_)
 refine AF ?_
 cases h
 simp only [go_sem]
theorem NX (a0 a1 a2 r) (h:Ex a0 a1 a2=some r):AG Tryz.prog 76 [.agg [.ro (a0.p.datas.map Data.ds),.ro (a0.p.defs.map Def.ds)],.box 1 0,.ro (a2.map (pD Binder.ds))] [(1001,⟨List.map (pD Node.ds) a1.kids,some 1,0,true⟩)] [(1,[.int .i64 a1.term.kind,.int .i64 a1.term.num,.str a1.term.name,.int .i64 a1.term.typ.kind,.str a1.term.typ.name,.ro (a1.term.typ.kids.map TType.ds),.ro (a1.term.names.map strD),.ro (a1.term.kids.map Term.ds),.int .i64 a1.typ.kind,.str a1.typ.name,.ro (a1.typ.kids.map TType.ds),.int .i64 a1.level,.own 1001,.ro (a1.binds.map (pD Binder.ds)),.nilp])] (.bool r.1) [(1501,⟨List.map (pD Node.ds) r.2.kids,some 1,0,true⟩)] [(1,[.int .i64 r.2.term.kind,.int .i64 r.2.term.num,.str r.2.term.name,.int .i64 r.2.term.typ.kind,.str r.2.term.typ.name,.ro (a1.term.typ.kids.map TType.ds),.ro (a1.term.names.map strD),.ro (a1.term.kids.map Term.ds),.int .i64 r.2.typ.kind,.str r.2.typ.name,.ro (r.2.typ.kids.map TType.ds),.int .i64 r.2.level,.own 1501,.ro (a1.binds.map (pD Binder.ds)),(nop Binder.avs r.2.binder)])] :=by
 unfold Ex at h
 refine agF Tryz.func76 mixed (h:=Z ?_)
 replace h:=AB h; obtain⟨u,w,h⟩:=h
 rcases u with _|y
 ·replace h:=gx h
  refine Ak (Lr _ _ _ w) (by (first|rfl|(simp only [go_sem]; rfl))) (by first|rfl|(simp only [go_sem])) (Z ?_)
  refine AF ?_
  refine AW [false,false,false,false,false,false,false,false,false,false,false,false,false,false,false,false,false,true] (Tr.sq [17] .fin) (by kernel_rfl) (Z ?_)
  replace h:=AB h; obtain⟨q,g,h⟩:=h
  refine AH (GD _ _ _ g) (Z ?_)
  replace h:=AB h; obtain⟨j,k,h⟩:=h
  refine AK k (Def.ds_len _) (Z ?_)
  refine AF ?_
  cases h
  refine Aj (.done _) [(1501,1001)] [(1,1)] ?_
  simp only [go_sem]
 ·replace h:=gy h
  refine Ak (Lr _ _ _ w) (by (first|rfl|(simp only [go_sem]; rfl))) (by first|rfl|(simp only [go_sem])) (Z ?_)
  refine AF ?_
  refine AF ?_
  cases h
  refine Aj (.done _) [(1501,1001)] [(1,1)] ?_
  simp only [go_sem]
theorem Pk  (r:TType) (h:JI=some r):AG Tryz.prog 77 [] [] [] (.agg [.int .i64 r.kind,.str r.name,.ro (r.kids.map TType.ds)]) [] [] :=by
 unfold JI at h
 refine agF Tryz.func77 mixed (h:=Z ?_)
 refine AF ?_
 cases h
 refine Aj (.frzN [(0,[2])] [] _ _ (by (first|rfl|(simp only [go_sem]; rfl))) (by (first|rfl|(simp only [go_sem]; rfl))) (.done _)) [] [] ?_
 simp only [go_sem]
 all_goals try rfl
theorem Vd (a0 a1 r) (h:Ku a0 a1=some r):AG Tryz.prog 80 [.agg [.int .i64 a0.kind,.str a0.name,.ro (a0.kids.map TType.ds)],.agg [.int .i64 a1.kind,.str a1.name,.ro (a1.kids.map TType.ds)]] [] [] (.agg [.int .i64 r.kind,.str r.name,.ro (r.kids.map TType.ds)]) [] [] :=by
 unfold Ku at h
 refine agF Tryz.func80 mixed (h:=Z ?_)
 refine AF ?_
 refine AF ?_
 cases h
 refine Aj (.frzB 2002 [(0,[2])] [(1002,2)] _ _ _ (by (first|rfl|(simp only [go_sem]; rfl))) (by decide) (by rfl) (by (first|rfl|(simp only [go_sem]; rfl))) (by (first|rfl|(simp only [go_sem]; rfl))) (.done _)) [] [] ?_
 simp only [go_sem]
 all_goals try rfl
theorem Tn (a0 r) (h:Jb a0=some r):AG Tryz.prog 81 [.agg [.int .i64 a0.kind,.str a0.name,.ro (a0.kids.map TType.ds)]] [] [] (.agg [.int .i64 r.kind,.str r.name,.ro (r.kids.map TType.ds)]) [] [] :=by
 unfold Jb at h
 refine agF Tryz.func81 mixed (h:=Z ?_)
 refine AF ?_
 refine AF ?_
 cases h
 refine Aj (.frzB 2001 [(0,[2])] [(1001,2)] _ _ _ (by (first|rfl|(simp only [go_sem]; rfl))) (by decide) (by rfl) (by (first|rfl|(simp only [go_sem]; rfl))) (by (first|rfl|(simp only [go_sem]; rfl))) (.done _)) [] [] ?_
 simp only [go_sem]
 all_goals try rfl
theorem Nq (a0 r) (h:H7 a0=some r):AG Tryz.prog 126 [.str a0] [] [] (.agg [.int .i64 r.kind,.str r.name,.ro (r.kids.map TType.ds)]) [] [] :=by
 unfold H7 at h
 refine agF Tryz.func126 mixed (h:=Z ?_)
 refine AF ?_
 cases h
 refine Aj (.frzN [(0,[2])] [] _ _ (by (first|rfl|(simp only [go_sem]; rfl))) (by (first|rfl|(simp only [go_sem]; rfl))) (.done _)) [] [] ?_
 simp only [go_sem]
 all_goals try rfl
theorem CY (a1:Term) (u:Int) (w:Int) (y:ByteArray) (q:Int) (g:ByteArray) (j:Int) (k:ByteArray) (b:List TType) (d:Int) (c:List Node) (e:List Binder) (i:Option Binder) (l:Bool) (r:Node × Bool) (h:AN a1 u w y q g j k b d c e i l=some r):EM Tryz.prog Tryz.f35 [1,1,1,1] (.tup [.rop [.int .i64 r.1.term.kind,.int .i64 r.1.term.num,.str r.1.term.name,.int .i64 r.1.term.typ.kind,.str r.1.term.typ.name,.ro (r.1.term.typ.kids.map TType.ds),.ro (r.1.term.names.map strD),.ro (r.1.term.kids.map Term.ds),.int .i64 r.1.typ.kind,.str r.1.typ.name,.ro (r.1.typ.kids.map TType.ds),.int .i64 r.1.level,.ro (r.1.kids.map (pD Node.ds)),.ro (r.1.binds.map (pD Binder.ds)),(nop Binder.avs r.1.binder)] 0,.bool r.2]) [] [] ⟨[(10,.box 1000001500 0),(11,.bool l)],[(1000001000,some ⟨List.map (pD Node.ds) c,some 1,0,true⟩)],[(1000001500,some [.int .i64 u,.int .i64 w,.str y,.int .i64 q,.str g,.ro (a1.typ.kids.map TType.ds),.ro (a1.names.map strD),.ro (a1.kids.map Term.ds),.int .i64 j,.str k,.ro (b.map TType.ds),.int .i64 d,.own 1000001000,.ro (e.map (pD Binder.ds)),(nop Binder.avs i)])]⟩:=by
 unfold AN at h
 refine BI rfl rfl (Z ?_)
 cases h
 rcases hnp_:i with _|hny_
 ·refine Aj (.frzT 1000001000 [] [(1000001500,12)] _ _ _ (by (first|rfl|(simp only [go_sem]; rfl))) (by decide) (by (first|rfl|(simp only [go_sem]; rfl))) (by (first|rfl|(simp only [go_sem]; rfl))) (.frzB 1000001500 [(0,[0])] [] _ _ _ (by (first|rfl|(simp only [go_sem]; rfl))) (by decide) (by rfl) (by (first|rfl|(simp only [go_sem]; rfl))) (by (first|rfl|(simp only [go_sem]; rfl))) (.done _))) [] [] ?_
  simp only [go_sem]
  all_goals try rfl
 ·refine Aj (.frzT 1000001000 [] [(1000001500,12)] _ _ _ (by (first|rfl|(simp only [go_sem]; rfl))) (by decide) (by (first|rfl|(simp only [go_sem]; rfl))) (by (first|rfl|(simp only [go_sem]; rfl))) (.frzB 1000001500 [(0,[0])] [] _ _ _ (by (first|rfl|(simp only [go_sem]; rfl))) (by decide) (by rfl) (by (first|rfl|(simp only [go_sem]; rfl))) (by (first|rfl|(simp only [go_sem]; rfl))) (.done _))) [] [] ?_
  simp only [go_sem]
  all_goals try rfl
theorem AO (a1:Term) (a3:Int) (u:TType × Bool × Node) (r:Node × Bool) (h:FX a1 a3 u=some r):EM Tryz.prog Tryz.f35 [1,1,1,0,1,0,1,1,1,1,1,0,1,1] (.tup [.rop [.int .i64 r.1.term.kind,.int .i64 r.1.term.num,.str r.1.term.name,.int .i64 r.1.term.typ.kind,.str r.1.term.typ.name,.ro (r.1.term.typ.kids.map TType.ds),.ro (r.1.term.names.map strD),.ro (r.1.term.kids.map Term.ds),.int .i64 r.1.typ.kind,.str r.1.typ.name,.ro (r.1.typ.kids.map TType.ds),.int .i64 r.1.level,.ro (r.1.kids.map (pD Node.ds)),.ro (r.1.binds.map (pD Binder.ds)),(nop Binder.avs r.1.binder)] 0,.bool r.2]) [] [] ⟨[(5,.box 1000000500 0),(10,.box 1000000501 0),(12,.box 1000000502 0),(13,.bool u.2.1)],[(1000000000,some ⟨List.map (pD Node.ds) u.2.2.kids,some 1,0,true⟩)],[(1000000500,some [.int .i64 a1.kind,.int .i64 a1.num,.str a1.name,.int .i64 a1.typ.kind,.str a1.typ.name,.ro (a1.typ.kids.map TType.ds),.ro (a1.names.map strD),.ro (a1.kids.map Term.ds)]),(1000000501,some [.int .i64 u.2.2.term.kind,.int .i64 u.2.2.term.num,.str u.2.2.term.name,.int .i64 u.2.2.term.typ.kind,.str u.2.2.term.typ.name,.ro (a1.typ.kids.map TType.ds),.ro (a1.names.map strD),.ro (a1.kids.map Term.ds),.int .i64 u.2.2.typ.kind,.str u.2.2.typ.name,.ro (List.map TType.ds []),.int .i64 u.2.2.level,.own 1000000000,.ro (List.map (pD Binder.ds) [(⟨a1.name,a1.typ,a3⟩:Binder)]),.nilp]),(1000000502,some [.int .i64 u.1.kind,.str u.1.name,.ro (u.1.kids.map TType.ds)])]⟩:=by
 unfold FX at h
 refine BI rfl rfl (Z ?_)
 replace h:=AB h; obtain⟨w,y,h⟩:=h
 refine Ak (Vd _ _ _ y) (by (first|rfl|(simp only [go_sem]; rfl))) (by first|rfl|(simp only [go_sem])) (Z ?_)
 exact Aq (CY a1 u.2.2.term.kind u.2.2.term.num u.2.2.term.name u.2.2.term.typ.kind u.2.2.term.typ.name w.kind w.name w.kids u.2.2.level u.2.2.kids [(⟨a1.name,a1.typ,a3⟩:Binder)] none u.2.1 _ h) [(1000001000,1000000000)] [(1000001500,1000000501)]
theorem Iw (a1:Node) (u:Int) (w:Int) (y:ByteArray) (q:Int) (g:ByteArray) (j:Int) (k:ByteArray) (b:Int) (d:List Node) (c:List TType) (e:Bool) (r:Bool × Node) (h:Cf a1 u w y q g j k b d c e=some r):EM Tryz.prog Tryz.f84 [1,1,1,0,1,0,1,1,1,0,0,1] (.bool r.1) [(1501,⟨List.map (pD Node.ds) r.2.kids,some 1,0,true⟩)] [(1,[.int .i64 r.2.term.kind,.int .i64 r.2.term.num,.str r.2.term.name,.int .i64 r.2.term.typ.kind,.str r.2.term.typ.name,.ro (a1.term.typ.kids.map TType.ds),.ro (a1.term.names.map strD),.ro (a1.term.kids.map Term.ds),.int .i64 r.2.typ.kind,.str r.2.typ.name,.ro (r.2.typ.kids.map TType.ds),.int .i64 r.2.level,.own 1501,.ro (a1.binds.map (pD Binder.ds)),.nilp])] ⟨[(1,.box 1 0),(7,.own 1000004001),(80,.bool e)],[(1000004000,some ⟨List.map (pD Node.ds) d,some 1,0,true⟩),(1000004001,some ⟨List.map TType.dz c,some 3,0,true⟩)],[(1,some [.int .i64 u,.int .i64 w,.str y,.int .i64 q,.str g,.ro (a1.term.typ.kids.map TType.ds),.ro (a1.term.names.map strD),.ro (a1.term.kids.map Term.ds),.int .i64 j,.str k,.ro (a1.typ.kids.map TType.ds),.int .i64 b,.own 1000004000,.ro (a1.binds.map (pD Binder.ds)),.nilp])]⟩:=by
 unfold Cf at h
 refine BI rfl rfl (Z ?_)
 refine AD h (fun h=>Z ?_) (fun h=>Z ?_)
 ·cases h
  refine Aj (.done _) [(1501,1000004000)] [(1,1)] ?_
  simp only [go_sem]
 ·refine AF ?_
  replace h:=AB h; obtain⟨i,l,h⟩:=h
  refine AK l (TType.dz_len _) (Z ?_)
  refine Ai (AX l) (Z ?_)
  replace h:=AB h; obtain⟨t,s,h⟩:=h
  refine AK s (TType.ds_len _) (Z ?_)
  cases h
  refine Aj (.done _) [(1501,1000004000)] [(1,1)] ?_
  simp only [go_sem]
theorem Pl (n:Nat):(∀a0 a1 a2 r,Eb n a0 a1 a2=some r→AG Tryz.prog 84 [.agg [.ro (a0.p.datas.map Data.ds),.ro (a0.p.defs.map Def.ds)],.box 1 0,.ro (a2.map (pD Binder.ds))] [(1001,⟨List.map (pD Node.ds) a1.kids,some 1,0,true⟩)] [(1,[.int .i64 a1.term.kind,.int .i64 a1.term.num,.str a1.term.name,.int .i64 a1.term.typ.kind,.str a1.term.typ.name,.ro (a1.term.typ.kids.map TType.ds),.ro (a1.term.names.map strD),.ro (a1.term.kids.map Term.ds),.int .i64 a1.typ.kind,.str a1.typ.name,.ro (a1.typ.kids.map TType.ds),.int .i64 a1.level,.own 1001,.ro (a1.binds.map (pD Binder.ds)),.nilp])] (.bool r.1) [(1501,⟨List.map (pD Node.ds) r.2.kids,some 1,0,true⟩)] [(1,[.int .i64 r.2.term.kind,.int .i64 r.2.term.num,.str r.2.term.name,.int .i64 r.2.term.typ.kind,.str r.2.term.typ.name,.ro (a1.term.typ.kids.map TType.ds),.ro (a1.term.names.map strD),.ro (a1.term.kids.map Term.ds),.int .i64 r.2.typ.kind,.str r.2.typ.name,.ro (r.2.typ.kids.map TType.ds),.int .i64 r.2.level,.own 1501,.ro (a1.binds.map (pD Binder.ds)),.nilp])])∧
    (∀a0 a1 a2 u w y g j k b d e i l r,Aa n a0 a1 a2 u w y g j k b d e i l=some r→EM Tryz.prog Tryz.f84 [1,1,0,1,0] (.bool r.1) [(1501,⟨List.map (pD Node.ds) r.2.kids,some 1,0,true⟩)] [(1,[.int .i64 r.2.term.kind,.int .i64 r.2.term.num,.str r.2.term.name,.int .i64 r.2.term.typ.kind,.str r.2.term.typ.name,.ro (a1.term.typ.kids.map TType.ds),.ro (a1.term.names.map strD),.ro (a1.term.kids.map Term.ds),.int .i64 r.2.typ.kind,.str r.2.typ.name,.ro (r.2.typ.kids.map TType.ds),.int .i64 r.2.level,.own 1501,.ro (a1.binds.map (pD Binder.ds)),.nilp])] ⟨[(1,.box 1 0),(2,.ro (a2.map (pD Binder.ds))),(3,.box 1000002500 0),(7,.own 1000002001),(17,.int .i64 (a1.term.kids.length:Int)),(18,.int .i64 l)],[(1000002000,some ⟨List.map (pD Node.ds) e,some 1,0,true⟩),(1000002001,some ⟨List.map TType.dz i,some 3,0,true⟩)],[(1,some [.int .i64 u,.int .i64 w,.str y,.int .i64 g,.str j,.ro (a1.term.typ.kids.map TType.ds),.ro (a1.term.names.map strD),.ro (a1.term.kids.map Term.ds),.int .i64 k,.str b,.ro (a1.typ.kids.map TType.ds),.int .i64 d,.own 1000002000,.ro (a1.binds.map (pD Binder.ds)),.nilp]),(1000002500,some [.ro (a0.p.datas.map Data.ds),.ro (a0.p.defs.map Def.ds)])]⟩)∧
    (∀a0 a1 a2 a3 r,B6 n a0 a1 a2 a3=some r→AG Tryz.prog 78 [.agg [.ro (a0.p.datas.map Data.ds),.ro (a0.p.defs.map Def.ds)],.box 1 0,.ro (a2.map (pD Binder.ds)),.int .i64 a3] [(1001,⟨List.map (pD Node.ds) a1.kids,some 1,0,true⟩)] [(1,[.int .i64 a1.term.kind,.int .i64 a1.term.num,.str a1.term.name,.int .i64 a1.term.typ.kind,.str a1.term.typ.name,.ro (a1.term.typ.kids.map TType.ds),.ro (a1.term.names.map strD),.ro (a1.term.kids.map Term.ds),.int .i64 a1.typ.kind,.str a1.typ.name,.ro (a1.typ.kids.map TType.ds),.int .i64 a1.level,.own 1001,.ro (a1.binds.map (pD Binder.ds)),.nilp])] (.tup [.agg [.int .i64 r.1.kind,.str r.1.name,.ro (r.1.kids.map TType.ds)],.bool r.2.1]) [(1501,⟨List.map (pD Node.ds) r.2.2.kids,some 1,0,true⟩)] [(1,[.int .i64 r.2.2.term.kind,.int .i64 r.2.2.term.num,.str r.2.2.term.name,.int .i64 r.2.2.term.typ.kind,.str r.2.2.term.typ.name,.ro (a1.term.typ.kids.map TType.ds),.ro (a1.term.names.map strD),.ro (a1.term.kids.map Term.ds),.int .i64 r.2.2.typ.kind,.str r.2.2.typ.name,.ro (a1.typ.kids.map TType.ds),.int .i64 r.2.2.level,.own 1501,.ro (a1.binds.map (pD Binder.ds)),.nilp])])∧
    (∀a0 a1 a2 a3 r,AM n a0 a1 a2 a3=some r→AG Tryz.prog 35 [.agg [.ro (a0.p.datas.map Data.ds),.ro (a0.p.defs.map Def.ds)],.agg [.int .i64 a1.kind,.int .i64 a1.num,.str a1.name,.int .i64 a1.typ.kind,.str a1.typ.name,.ro (a1.typ.kids.map TType.ds),.ro (a1.names.map strD),.ro (a1.kids.map Term.ds)],.ro (a2.map (pD Binder.ds)),.int .i64 a3] [] [] (.tup [.rop [.int .i64 r.1.term.kind,.int .i64 r.1.term.num,.str r.1.term.name,.int .i64 r.1.term.typ.kind,.str r.1.term.typ.name,.ro (r.1.term.typ.kids.map TType.ds),.ro (r.1.term.names.map strD),.ro (r.1.term.kids.map Term.ds),.int .i64 r.1.typ.kind,.str r.1.typ.name,.ro (r.1.typ.kids.map TType.ds),.int .i64 r.1.level,.ro (r.1.kids.map (pD Node.ds)),.ro (r.1.binds.map (pD Binder.ds)),(nop Binder.avs r.1.binder)] 0,.bool r.2]) [] [])∧
    (∀a0 a1 a2 r,F9 n a0 a1 a2=some r→AG Tryz.prog 82 [.agg [.ro (a0.p.datas.map Data.ds),.ro (a0.p.defs.map Def.ds)],.box 1 0,.ro (a2.map (pD Binder.ds))] [(1001,⟨List.map (pD Node.ds) a1.kids,some 1,0,true⟩)] [(1,[.int .i64 a1.term.kind,.int .i64 a1.term.num,.str a1.term.name,.int .i64 a1.term.typ.kind,.str a1.term.typ.name,.ro (a1.term.typ.kids.map TType.ds),.ro (a1.term.names.map strD),.ro (a1.term.kids.map Term.ds),.int .i64 a1.typ.kind,.str a1.typ.name,.ro (a1.typ.kids.map TType.ds),.int .i64 a1.level,.own 1001,.ro (a1.binds.map (pD Binder.ds)),.nilp])] (.bool r.1) [(1501,⟨List.map (pD Node.ds) r.2.kids,some 1,0,true⟩)] [(1,[.int .i64 r.2.term.kind,.int .i64 r.2.term.num,.str r.2.term.name,.int .i64 r.2.term.typ.kind,.str r.2.term.typ.name,.ro (a1.term.typ.kids.map TType.ds),.ro (a1.term.names.map strD),.ro (a1.term.kids.map Term.ds),.int .i64 r.2.typ.kind,.str r.2.typ.name,.ro (r.2.typ.kids.map TType.ds),.int .i64 r.2.level,.own 1501,.ro (r.2.binds.map (pD Binder.ds)),.nilp])])∧
    (∀a0 a1 a2 t r,Ey n a0 a1 a2 t=some r→EM Tryz.prog Tryz.f82 [1,1] (.bool r.1) [(1501,⟨List.map (pD Node.ds) r.2.kids,some 1,0,true⟩)] [(1,[.int .i64 r.2.term.kind,.int .i64 r.2.term.num,.str r.2.term.name,.int .i64 r.2.term.typ.kind,.str r.2.term.typ.name,.ro (a1.term.typ.kids.map TType.ds),.ro (a1.term.names.map strD),.ro (a1.term.kids.map Term.ds),.int .i64 r.2.typ.kind,.str r.2.typ.name,.ro (r.2.typ.kids.map TType.ds),.int .i64 r.2.level,.own 1501,.ro (r.2.binds.map (pD Binder.ds)),.nilp])] ⟨[(1,.box 1 0),(2,.ro (a2.map (pD Binder.ds))),(3,.box 1000000500 0),(7,.box 1000000501 0),(8,.bool t.2.1)],[(1000000000,some ⟨List.map (pD Node.ds) t.2.2.kids,some 1,0,true⟩)],[(1,some [.int .i64 t.2.2.term.kind,.int .i64 t.2.2.term.num,.str t.2.2.term.name,.int .i64 t.2.2.term.typ.kind,.str t.2.2.term.typ.name,.ro (a1.term.typ.kids.map TType.ds),.ro (a1.term.names.map strD),.ro (a1.term.kids.map Term.ds),.int .i64 t.2.2.typ.kind,.str t.2.2.typ.name,.ro (a1.typ.kids.map TType.ds),.int .i64 t.2.2.level,.own 1000000000,.ro (a1.binds.map (pD Binder.ds)),.nilp]),(1000000500,some [.ro (a0.p.datas.map Data.ds),.ro (a0.p.defs.map Def.ds)]),(1000000501,some [.int .i64 t.1.kind,.str t.1.name,.ro (t.1.kids.map TType.ds)])]⟩)∧
    (∀a0 a1 a2 t s r,BB n a0 a1 a2 t s=some r→EM Tryz.prog Tryz.f82 [1,1,1,0,0,1] (.bool r.1) [(1501,⟨List.map (pD Node.ds) r.2.kids,some 1,0,true⟩)] [(1,[.int .i64 r.2.term.kind,.int .i64 r.2.term.num,.str r.2.term.name,.int .i64 r.2.term.typ.kind,.str r.2.term.typ.name,.ro (a1.term.typ.kids.map TType.ds),.ro (a1.term.names.map strD),.ro (a1.term.kids.map Term.ds),.int .i64 r.2.typ.kind,.str r.2.typ.name,.ro (r.2.typ.kids.map TType.ds),.int .i64 r.2.level,.own 1501,.ro (r.2.binds.map (pD Binder.ds)),.nilp])] ⟨[(1,.box 1 0),(2,.ro (a2.map (pD Binder.ds))),(3,.box 1000001500 0),(7,.box 1000001501 0),(9,.box 1000001502 0),(33,.bool s)],[(1000001000,some ⟨List.map (pD Node.ds) t.2.2.kids,some 1,0,true⟩)],[(1,some [.int .i64 t.2.2.term.kind,.int .i64 t.2.2.term.num,.str t.2.2.term.name,.int .i64 t.2.2.term.typ.kind,.str t.2.2.term.typ.name,.ro (a1.term.typ.kids.map TType.ds),.ro (a1.term.names.map strD),.ro (a1.term.kids.map Term.ds),.int .i64 t.2.2.typ.kind,.str t.2.2.typ.name,.ro (a1.typ.kids.map TType.ds),.int .i64 t.2.2.level,.own 1000001000,.ro (a1.binds.map (pD Binder.ds)),.nilp]),(1000001500,some [.ro (a0.p.datas.map Data.ds),.ro (a0.p.defs.map Def.ds)]),(1000001501,some [.int .i64 t.1.kind,.str t.1.name,.ro (t.1.kids.map TType.ds)]),(1000001502,some [.str t.2.2.term.name,.int .i64 t.1.kind,.str t.1.name,.ro (t.1.kids.map TType.ds),.int .i64 t.2.2.level])]⟩)∧
    (∀a0 a1 a2 t u w y g r,CP n a0 a1 a2 t u w y g=some r→EM Tryz.prog Tryz.f82 [1,1,1,1] (.bool r.1) [(1501,⟨List.map (pD Node.ds) r.2.kids,some 1,0,true⟩)] [(1,[.int .i64 r.2.term.kind,.int .i64 r.2.term.num,.str r.2.term.name,.int .i64 r.2.term.typ.kind,.str r.2.term.typ.name,.ro (a1.term.typ.kids.map TType.ds),.ro (a1.term.names.map strD),.ro (a1.term.kids.map Term.ds),.int .i64 r.2.typ.kind,.str r.2.typ.name,.ro (r.2.typ.kids.map TType.ds),.int .i64 r.2.level,.own 1501,.ro (r.2.binds.map (pD Binder.ds)),.nilp])] ⟨[(1,.box 1 0),(2,.ro (a2.map (pD Binder.ds))),(3,.box 1000002500 0),(9,.box 1000002501 0)],[(1000002000,some ⟨List.map (pD Node.ds) t.2.2.kids,some 1,0,true⟩)],[(1,some [.int .i64 t.2.2.term.kind,.int .i64 t.2.2.term.num,.str t.2.2.term.name,.int .i64 t.2.2.term.typ.kind,.str t.2.2.term.typ.name,.ro (a1.term.typ.kids.map TType.ds),.ro (a1.term.names.map strD),.ro (a1.term.kids.map Term.ds),.int .i64 t.2.2.typ.kind,.str t.2.2.typ.name,.ro (a1.typ.kids.map TType.ds),.int .i64 t.2.2.level,.own 1000002000,.ro (a1.binds.map (pD Binder.ds)),.nilp]),(1000002500,some [.ro (a0.p.datas.map Data.ds),.ro (a0.p.defs.map Def.ds)]),(1000002501,some [.str t.2.2.term.name,.int .i64 u,.str w,.ro (y.map TType.ds),.int .i64 g])]⟩)∧
    (∀a0 a1 a2 r,Ec n a0 a1 a2=some r→AG Tryz.prog 83 [.agg [.ro (a0.p.datas.map Data.ds),.ro (a0.p.defs.map Def.ds)],.box 1 0,.ro (a2.map (pD Binder.ds))] [(1001,⟨List.map (pD Node.ds) a1.kids,some 1,0,true⟩)] [(1,[.int .i64 a1.term.kind,.int .i64 a1.term.num,.str a1.term.name,.int .i64 a1.term.typ.kind,.str a1.term.typ.name,.ro (a1.term.typ.kids.map TType.ds),.ro (a1.term.names.map strD),.ro (a1.term.kids.map Term.ds),.int .i64 a1.typ.kind,.str a1.typ.name,.ro (a1.typ.kids.map TType.ds),.int .i64 a1.level,.own 1001,.ro (a1.binds.map (pD Binder.ds)),.nilp])] (.bool r.1) [(1501,⟨List.map (pD Node.ds) r.2.kids,some 1,0,true⟩)] [(1,[.int .i64 r.2.term.kind,.int .i64 r.2.term.num,.str r.2.term.name,.int .i64 r.2.term.typ.kind,.str r.2.term.typ.name,.ro (a1.term.typ.kids.map TType.ds),.ro (a1.term.names.map strD),.ro (a1.term.kids.map Term.ds),.int .i64 r.2.typ.kind,.str r.2.typ.name,.ro (r.2.typ.kids.map TType.ds),.int .i64 r.2.level,.own 1501,.ro (a1.binds.map (pD Binder.ds)),.nilp])])∧
    (∀a0 a1 a2 t r,D2 n a0 a1 a2 t=some r→EM Tryz.prog Tryz.f83 [1,1] (.bool r.1) [(1501,⟨List.map (pD Node.ds) r.2.kids,some 1,0,true⟩)] [(1,[.int .i64 r.2.term.kind,.int .i64 r.2.term.num,.str r.2.term.name,.int .i64 r.2.term.typ.kind,.str r.2.term.typ.name,.ro (a1.term.typ.kids.map TType.ds),.ro (a1.term.names.map strD),.ro (a1.term.kids.map Term.ds),.int .i64 r.2.typ.kind,.str r.2.typ.name,.ro (r.2.typ.kids.map TType.ds),.int .i64 r.2.level,.own 1501,.ro (a1.binds.map (pD Binder.ds)),.nilp])] ⟨[(1,.box 1 0),(2,.ro (a2.map (pD Binder.ds))),(3,.box 1000000500 0),(7,.box 1000000501 0),(8,.bool t.2.1)],[(1000000000,some ⟨List.map (pD Node.ds) t.2.2.kids,some 1,0,true⟩)],[(1,some [.int .i64 t.2.2.term.kind,.int .i64 t.2.2.term.num,.str t.2.2.term.name,.int .i64 t.2.2.term.typ.kind,.str t.2.2.term.typ.name,.ro (a1.term.typ.kids.map TType.ds),.ro (a1.term.names.map strD),.ro (a1.term.kids.map Term.ds),.int .i64 t.2.2.typ.kind,.str t.2.2.typ.name,.ro (a1.typ.kids.map TType.ds),.int .i64 t.2.2.level,.own 1000000000,.ro (a1.binds.map (pD Binder.ds)),.nilp]),(1000000500,some [.ro (a0.p.datas.map Data.ds),.ro (a0.p.defs.map Def.ds)]),(1000000501,some [.int .i64 t.1.kind,.str t.1.name,.ro (t.1.kids.map TType.ds)])]⟩)∧
    (∀a0 a1 a2 t o s r,BL n a0 a1 a2 t o s=some r→EM Tryz.prog Tryz.f83 [1,1,1,0,1] (.bool r.1) [(1501,⟨List.map (pD Node.ds) r.2.kids,some 1,0,true⟩)] [(1,[.int .i64 r.2.term.kind,.int .i64 r.2.term.num,.str r.2.term.name,.int .i64 r.2.term.typ.kind,.str r.2.term.typ.name,.ro (a1.term.typ.kids.map TType.ds),.ro (a1.term.names.map strD),.ro (a1.term.kids.map Term.ds),.int .i64 r.2.typ.kind,.str r.2.typ.name,.ro (r.2.typ.kids.map TType.ds),.int .i64 r.2.level,.own 1501,.ro (a1.binds.map (pD Binder.ds)),.nilp])] ⟨[(1,.box 1 0),(2,.ro (a2.map (pD Binder.ds))),(3,.box 1000001500 0),(9,.int .i64 o.1),(56,.bool s)],[(1000001000,some ⟨List.map (pD Node.ds) t.2.2.kids,some 1,0,true⟩)],[(1,some [.int .i64 t.2.2.term.kind,.int .i64 t.2.2.term.num,.str t.2.2.term.name,.int .i64 t.2.2.term.typ.kind,.str t.2.2.term.typ.name,.ro (a1.term.typ.kids.map TType.ds),.ro (a1.term.names.map strD),.ro (a1.term.kids.map Term.ds),.int .i64 t.2.2.typ.kind,.str t.2.2.typ.name,.ro (a1.typ.kids.map TType.ds),.int .i64 t.2.2.level,.own 1000001000,.ro (a1.binds.map (pD Binder.ds)),.nilp]),(1000001500,some [.ro (a0.p.datas.map Data.ds),.ro (a0.p.defs.map Def.ds)])]⟩)∧
    (∀a0 a1 a2 t o (z:List Term) u1 u2 u3 u4 u5 r,Az n a0 a1 a2 t o z u1 u2 u3 u4 u5=some r→EM Tryz.prog Tryz.f83 [1,1,1,1,0,1,0] (.bool r.1) [(1501,⟨List.map (pD Node.ds) r.2.kids,some 1,0,true⟩)] [(1,[.int .i64 r.2.term.kind,.int .i64 r.2.term.num,.str r.2.term.name,.int .i64 r.2.term.typ.kind,.str r.2.term.typ.name,.ro (a1.term.typ.kids.map TType.ds),.ro (a1.term.names.map strD),.ro (a1.term.kids.map Term.ds),.int .i64 r.2.typ.kind,.str r.2.typ.name,.ro (r.2.typ.kids.map TType.ds),.int .i64 r.2.level,.own 1501,.ro (a1.binds.map (pD Binder.ds)),.nilp])] ⟨[(1,.box 1 0),(2,.ro (a2.map (pD Binder.ds))),(3,.box 1000009500 0),(9,.int .i64 o.1),(62,.ro (z.map Term.ds)),(63,.int .i64 (z.length:Int)),(64,.int .i64 u5)],[(1000009000,some ⟨List.map (pD Node.ds) u4,some 1,0,true⟩)],[(1,some [.int .i64 t.2.2.term.kind,.int .i64 t.2.2.term.num,.str t.2.2.term.name,.int .i64 t.2.2.term.typ.kind,.str t.2.2.term.typ.name,.ro (a1.term.typ.kids.map TType.ds),.ro (a1.term.names.map strD),.ro (a1.term.kids.map Term.ds),.int .i64 u1,.str u2,.ro (u3.map TType.ds),.int .i64 t.2.2.level,.own 1000009000,.ro (a1.binds.map (pD Binder.ds)),.nilp]),(1000009500,some [.ro (a0.p.datas.map Data.ds),.ro (a0.p.defs.map Def.ds)])]⟩)∧
    (∀a0 a1 a2 u1 u2 u3 u4 u5 t o (z:List Term) u6 u7 u8 r,BD n a0 a1 a2 u1 u2 u3 u4 u5 t o z u6 u7 u8=some r→EM Tryz.prog Tryz.f83 [1,1,1,1,0,1,0,0,1,1,0,0,1,1,0,1,0] (.bool r.1) [(1501,⟨List.map (pD Node.ds) r.2.kids,some 1,0,true⟩)] [(1,[.int .i64 r.2.term.kind,.int .i64 r.2.term.num,.str r.2.term.name,.int .i64 r.2.term.typ.kind,.str r.2.term.typ.name,.ro (a1.term.typ.kids.map TType.ds),.ro (a1.term.names.map strD),.ro (a1.term.kids.map Term.ds),.int .i64 r.2.typ.kind,.str r.2.typ.name,.ro (r.2.typ.kids.map TType.ds),.int .i64 r.2.level,.own 1501,.ro (a1.binds.map (pD Binder.ds)),.nilp])] ⟨[(1,.box 1 0),(2,.ro (a2.map (pD Binder.ds))),(3,.box 1000014500 0),(9,.int .i64 o.1),(11,.int .i64 u5),(13,.box 1000014501 0),(62,.ro (z.map Term.ds)),(63,.int .i64 (z.length:Int)),(64,.int .i64 u5),(77,.ro (u6.names.map strD)),(78,.int .i64 (u6.names.length:Int)),(79,.int .i64 u8)],[(1000014000,some ⟨List.map (pD Node.ds) u4,some 1,0,true⟩),(1000014001,some ⟨List.map (pD Binder.ds) u7,some 1,0,true⟩)],[(1,some [.int .i64 t.2.2.term.kind,.int .i64 t.2.2.term.num,.str t.2.2.term.name,.int .i64 t.2.2.term.typ.kind,.str t.2.2.term.typ.name,.ro (a1.term.typ.kids.map TType.ds),.ro (a1.term.names.map strD),.ro (a1.term.kids.map Term.ds),.int .i64 u1,.str u2,.ro (u3.map TType.ds),.int .i64 t.2.2.level,.own 1000014000,.ro (a1.binds.map (pD Binder.ds)),.nilp]),(1000014500,some [.ro (a0.p.datas.map Data.ds),.ro (a0.p.defs.map Def.ds)]),(1000014501,some [.int .i64 u6.kind,.int .i64 u6.num,.str u6.name,.int .i64 u6.typ.kind,.str u6.typ.name,.ro (u6.typ.kids.map TType.ds),.ro (u6.names.map strD),.ro (u6.kids.map Term.ds),.int .i64 0,.str ByteArray.empty,.nils,.int .i64 t.2.2.level,.nils,.own 1000014001,.nilp])]⟩)∧
    (∀a0 a1 a2 u1 u2 u3 u5 u7 t o (z:List Term) u6 u9 u10 u11 r,BP n a0 a1 a2 u1 u2 u3 u5 u7 t o z u6 u9 u10 u11=some r→EM Tryz.prog Tryz.f83 [1,1,1,1,0,1,0,0,1,1,0,0,1,1,1,1,1,0,1] (.bool r.1) [(1501,⟨List.map (pD Node.ds) r.2.kids,some 1,0,true⟩)] [(1,[.int .i64 r.2.term.kind,.int .i64 r.2.term.num,.str r.2.term.name,.int .i64 r.2.term.typ.kind,.str r.2.term.typ.name,.ro (a1.term.typ.kids.map TType.ds),.ro (a1.term.names.map strD),.ro (a1.term.kids.map Term.ds),.int .i64 r.2.typ.kind,.str r.2.typ.name,.ro (r.2.typ.kids.map TType.ds),.int .i64 r.2.level,.own 1501,.ro (a1.binds.map (pD Binder.ds)),.nilp])] ⟨[(1,.box 1 0),(2,.ro (a2.map (pD Binder.ds))),(3,.box 1000015500 0),(9,.int .i64 o.1),(13,.rop [.int .i64 u9.2.2.term.kind,.int .i64 u9.2.2.term.num,.str u9.2.2.term.name,.int .i64 u9.2.2.term.typ.kind,.str u9.2.2.term.typ.name,.ro (u6.typ.kids.map TType.ds),.ro (u6.names.map strD),.ro (u6.kids.map Term.ds),.int .i64 u9.1.kind,.str u9.1.name,.ro (u9.1.kids.map TType.ds),.int .i64 u9.2.2.level,.ro (u9.2.2.kids.map (pD Node.ds)),.ro (u7.map (pD Binder.ds)),.nilp] 0),(62,.ro (z.map Term.ds)),(63,.int .i64 (z.length:Int)),(64,.int .i64 u5),(161,.bool u11)],[(1000015000,some ⟨List.map (pD Node.ds) u10,some 1,0,true⟩)],[(1,some [.int .i64 t.2.2.term.kind,.int .i64 t.2.2.term.num,.str t.2.2.term.name,.int .i64 t.2.2.term.typ.kind,.str t.2.2.term.typ.name,.ro (a1.term.typ.kids.map TType.ds),.ro (a1.term.names.map strD),.ro (a1.term.kids.map Term.ds),.int .i64 u1,.str u2,.ro (u3.map TType.ds),.int .i64 t.2.2.level,.own 1000015000,.ro (a1.binds.map (pD Binder.ds)),.nilp]),(1000015500,some [.ro (a0.p.datas.map Data.ds),.ro (a0.p.defs.map Def.ds)])]⟩)∧
    (∀a0 a1 a2 i l u12 r,D1 n a0 a1 a2 i l u12=some r→EM Tryz.prog Tryz.f84 [1,1,0,1,0,0,1,1,0,0,1] (.bool r.1) [(1501,⟨List.map (pD Node.ds) r.2.kids,some 1,0,true⟩)] [(1,[.int .i64 r.2.term.kind,.int .i64 r.2.term.num,.str r.2.term.name,.int .i64 r.2.term.typ.kind,.str r.2.term.typ.name,.ro (a1.term.typ.kids.map TType.ds),.ro (a1.term.names.map strD),.ro (a1.term.kids.map Term.ds),.int .i64 r.2.typ.kind,.str r.2.typ.name,.ro (r.2.typ.kids.map TType.ds),.int .i64 r.2.level,.own 1501,.ro (a1.binds.map (pD Binder.ds)),.nilp])] ⟨[(1,.box 1 0),(2,.ro (a2.map (pD Binder.ds))),(3,.box 1000003500 0),(7,.own 1000003001),(8,.box 1000003501 0),(9,.bool u12.2.1),(17,.int .i64 (a1.term.kids.length:Int)),(18,.int .i64 l)],[(1000003000,some ⟨List.map (pD Node.ds) u12.2.2.kids,some 1,0,true⟩),(1000003001,some ⟨List.map TType.dz i,some 3,0,true⟩)],[(1,some [.int .i64 u12.2.2.term.kind,.int .i64 u12.2.2.term.num,.str u12.2.2.term.name,.int .i64 u12.2.2.term.typ.kind,.str u12.2.2.term.typ.name,.ro (a1.term.typ.kids.map TType.ds),.ro (a1.term.names.map strD),.ro (a1.term.kids.map Term.ds),.int .i64 u12.2.2.typ.kind,.str u12.2.2.typ.name,.ro (a1.typ.kids.map TType.ds),.int .i64 u12.2.2.level,.own 1000003000,.ro (a1.binds.map (pD Binder.ds)),.nilp]),(1000003500,some [.ro (a0.p.datas.map Data.ds),.ro (a0.p.defs.map Def.ds)]),(1000003501,some [.int .i64 u12.1.kind,.str u12.1.name,.ro (u12.1.kids.map TType.ds)])]⟩):=by
 induction n with
 |zero=>exact⟨(fun _ _ _ _ h=>by rw [Eb] at h; cases h),(fun _ _ _ _ _ _ _ _ _ _ _ _ _ _ _ h=>by rw [Aa] at h; cases h),(fun _ _ _ _ _ h=>by rw [B6] at h; cases h),(fun _ _ _ _ _ h=>by rw [AM] at h; cases h),(fun _ _ _ _ h=>by rw [F9] at h; cases h),(fun _ _ _ _ _ h=>by rw [Ey] at h; cases h),(fun _ _ _ _ _ _ h=>by rw [BB] at h; cases h),(fun _ _ _ _ _ _ _ _ _ h=>by rw [CP] at h; cases h),(fun _ _ _ _ h=>by rw [Ec] at h; cases h),(fun _ _ _ _ _ h=>by rw [D2] at h; cases h),(fun _ _ _ _ _ _ _ h=>by rw [BL] at h; cases h),(fun _ _ _ _ _ _ _ _ _ _ _ _ h=>by rw [Az] at h; cases h),(fun _ _ _ _ _ _ _ _ _ _ _ _ _ _ _ h=>by rw [BD] at h; cases h),(fun _ _ _ _ _ _ _ _ _ _ _ _ _ _ _ _ h=>by rw [BP] at h; cases h),(fun _ _ _ _ _ _ _ h=>by rw [D1] at h; cases h)⟩
 | succ n ih =>
  obtain⟨ih0,ih1,ih2,ih3,ih4,ih5,ih6,ih7,ih8,ih9,ih10,ih11,ih12,ih13,ih14⟩:=ih
  refine⟨?_,?_,?_,?_,?_,?_,?_,?_,?_,?_,?_,?_,?_,?_,?_⟩
  ·intro a0 a1 a2 r h
   rw [Eb] at h
   refine agF Tryz.func84 mixed (h:=Z ?_)
   refine D9 (Iz rfl rfl (ih1 a0 a1 a2 a1.term.kind a1.term.num a1.term.name a1.term.typ.kind a1.term.typ.name a1.typ.kind a1.typ.name a1.level a1.kids [] 0 _ h):) (.one ⟨_,.slot 7 2000000000 (some 3) true (by simp only [go_sem]) (by simp only [go_sem]) (.done _),[(1000002000,1001),(1000002001,2000000000)],[(1,1),(1000002500,1000)],?_⟩)
   simp only [go_sem]
   all_goals try rfl
  ·intro a0 a1 a2 u w y g j k b d e i l r h
   rw [Aa] at h
   refine BI rfl rfl (Z ?_)
   refine AT (Z ?_)
   refine Am (fun u13=>?_) (fun u13=>?_)
   ·replace h:=ifT (c:=(decide (l<(a1.term.kids.length:Int)))) u13 h
    try simp only [go_sem]
    refine AF ?_
    replace h:=AB h; obtain⟨u12,u14,h⟩:=h
    refine AW [true,false,false,false,true,true,true,true,true,true,true,true,true,true] (.br 0 (.br 4 (Tr.sq [5] (.br 6 (.br 7 (Tr.sq [8,9,10,11,12,13] .fin) (.br 11 (Tr.sq [7,8,9,10,12,13] .fin) .stop)) (.br 11 (Tr.sq [6,7,8,9,10,12,13] .fin) .stop))) (.br 11 (Tr.sq [4,5,6,7,8,9,10,12,13] .fin) .stop)) (.br 4 (Tr.sq [5] (.br 0 (.br 6 (.br 7 (Tr.sq [8,9,10,11,12,13] .fin) (.br 11 (Tr.sq [7,8,9,10,12,13] .fin) .stop)) (.br 11 (Tr.sq [6,7,8,9,10,12,13] .fin) .stop)) (.br 6 (.br 0 (.br 7 (Tr.sq [8,9,10,11,12,13] .fin) (.br 11 (Tr.sq [7,8,9,10,12,13] .fin) .stop)) (.br 11 (Tr.sq [0,7,8,9,10,12,13] .fin) .stop)) (.br 11 (.br 0 (Tr.sq [6,7,8,9,10,12,13] .fin) (.br 6 (Tr.sq [0,7,8,9,10,12,13] .fin) .stop)) .stop)))) (.br 11 (.br 0 (Tr.sq [4,5,6,7,8,9,10,12,13] .fin) (.br 4 (Tr.sq [5] (.br 0 (Tr.sq [6,7,8,9,10,12,13] .fin) (.br 6 (Tr.sq [0,7,8,9,10,12,13] .fin) .stop))) .stop)) .stop))) (by kernel_rfl) ?_
    try simp only [go_sem]
    refine Au ?_ ?_
    ·try simp only [go_sem]
     refine Au ?_ ?_
     ·try simp only [go_sem]
      refine Au ?_ ?_
      ·try simp only [go_sem]
       refine Au (Z ?_) (Z ?_)
       ·refine caG ⟨[],[(1001,1000002000)],[(1,1,0)],[(1501,80112)],[],true⟩ (ih2 _ _ _ _ _ u14) (Z ?_)
        exact Aq (ih14 a0 a1 a2 i l u12 _ h) [(1000003000,80112),(1000003001,1000002001)] [(1,1),(1000003500,1000002500),(1000003501,5011)]
       ·refine caG ⟨[],[(1001,1000002000)],[(1,1,0)],[(1501,80112)],[],true⟩ (ih2 _ _ _ _ _ u14) (Z ?_)
        exact Aq (ih14 a0 a1 a2 i l u12 _ h) [(1000003000,80112),(1000003001,1000002001)] [(1,1),(1000003500,1000002500),(1000003501,5011)]
      ·try simp only [go_sem]
       refine caG ⟨[],[(1001,1000002000)],[(1,1,0)],[(1501,80112)],[],true⟩ (ih2 _ _ _ _ _ u14) (Z ?_)
       exact Aq (ih14 a0 a1 a2 i l u12 _ h) [(1000003000,80112),(1000003001,1000002001)] [(1,1),(1000003500,1000002500),(1000003501,5011)]
     ·try simp only [go_sem]
      refine caG ⟨[],[(1001,1000002000)],[(1,1,0)],[(1501,80112)],[],true⟩ (ih2 _ _ _ _ _ u14) (Z ?_)
      exact Aq (ih14 a0 a1 a2 i l u12 _ h) [(1000003000,80112),(1000003001,1000002001)] [(1,1),(1000003500,1000002500),(1000003501,5011)]
    ·try simp only [go_sem]
     refine Au ?_ ?_
     ·try simp only [go_sem]
      refine Au ?_ ?_
      ·try simp only [go_sem]
       refine Au ?_ ?_
       ·try simp only [go_sem]
        refine Au (Z ?_) (Z ?_)
        ·refine caG ⟨[],[(1001,1000002000)],[(1,1,0)],[(1501,80112)],[],true⟩ (ih2 _ _ _ _ _ u14) (Z ?_)
         exact Aq (ih14 a0 a1 a2 i l u12 _ h) [(1000003000,80112),(1000003001,1000002001)] [(1,1),(1000003500,1000002500),(1000003501,5011)]
        ·refine caG ⟨[],[(1001,1000002000)],[(1,1,0)],[(1501,80112)],[],true⟩ (ih2 _ _ _ _ _ u14) (Z ?_)
         exact Aq (ih14 a0 a1 a2 i l u12 _ h) [(1000003000,80112),(1000003001,1000002001)] [(1,1),(1000003500,1000002500),(1000003501,5011)]
       ·try simp only [go_sem]
        refine caG ⟨[],[(1001,1000002000)],[(1,1,0)],[(1501,80112)],[],true⟩ (ih2 _ _ _ _ _ u14) (Z ?_)
        exact Aq (ih14 a0 a1 a2 i l u12 _ h) [(1000003000,80112),(1000003001,1000002001)] [(1,1),(1000003500,1000002500),(1000003501,5011)]
      ·try simp only [go_sem]
       refine Au ?_ ?_
       ·try simp only [go_sem]
        refine Au ?_ ?_
        ·try simp only [go_sem]
         refine Au (Z ?_) (Z ?_)
         ·refine caG ⟨[],[(1001,1000002000)],[(1,1,0)],[(1501,80112)],[],true⟩ (ih2 _ _ _ _ _ u14) (Z ?_)
          exact Aq (ih14 a0 a1 a2 i l u12 _ h) [(1000003000,80112),(1000003001,1000002001)] [(1,1),(1000003500,1000002500),(1000003501,5011)]
         ·refine caG ⟨[],[(1001,1000002000)],[(1,1,0)],[(1501,80112)],[],true⟩ (ih2 _ _ _ _ _ u14) (Z ?_)
          exact Aq (ih14 a0 a1 a2 i l u12 _ h) [(1000003000,80112),(1000003001,1000002001)] [(1,1),(1000003500,1000002500),(1000003501,5011)]
        ·try simp only [go_sem]
         refine caG ⟨[],[(1001,1000002000)],[(1,1,0)],[(1501,80112)],[],true⟩ (ih2 _ _ _ _ _ u14) (Z ?_)
         exact Aq (ih14 a0 a1 a2 i l u12 _ h) [(1000003000,80112),(1000003001,1000002001)] [(1,1),(1000003500,1000002500),(1000003501,5011)]
       ·try simp only [go_sem]
        refine Au (Z ?_) (Z ?_)
        ·refine caG ⟨[],[(1001,1000002000)],[(1,1,0)],[(1501,80112)],[],true⟩ (ih2 _ _ _ _ _ u14) (Z ?_)
         exact Aq (ih14 a0 a1 a2 i l u12 _ h) [(1000003000,80112),(1000003001,1000002001)] [(1,1),(1000003500,1000002500),(1000003501,5011)]
        ·refine caG ⟨[],[(1001,1000002000)],[(1,1,0)],[(1501,80112)],[],true⟩ (ih2 _ _ _ _ _ u14) (Z ?_)
         exact Aq (ih14 a0 a1 a2 i l u12 _ h) [(1000003000,80112),(1000003001,1000002001)] [(1,1),(1000003500,1000002500),(1000003501,5011)]
     ·try simp only [go_sem]
      refine Au ?_ ?_
      ·try simp only [go_sem]
       refine caG ⟨[],[(1001,1000002000)],[(1,1,0)],[(1501,80112)],[],true⟩ (ih2 _ _ _ _ _ u14) (Z ?_)
       exact Aq (ih14 a0 a1 a2 i l u12 _ h) [(1000003000,80112),(1000003001,1000002001)] [(1,1),(1000003500,1000002500),(1000003501,5011)]
      ·try simp only [go_sem]
       refine Au (Z ?_) (Z ?_)
       ·refine caG ⟨[],[(1001,1000002000)],[(1,1,0)],[(1501,80112)],[],true⟩ (ih2 _ _ _ _ _ u14) (Z ?_)
        exact Aq (ih14 a0 a1 a2 i l u12 _ h) [(1000003000,80112),(1000003001,1000002001)] [(1,1),(1000003500,1000002500),(1000003501,5011)]
       ·refine caG ⟨[],[(1001,1000002000)],[(1,1,0)],[(1501,80112)],[],true⟩ (ih2 _ _ _ _ _ u14) (Z ?_)
        exact Aq (ih14 a0 a1 a2 i l u12 _ h) [(1000003000,80112),(1000003001,1000002001)] [(1,1),(1000003500,1000002500),(1000003501,5011)]
   ·replace h:=ifF (c:=(decide (l<(a1.term.kids.length:Int)))) u13 h
    try simp only [go_sem]
    refine AF ?_
    refine Am (fun u15=>?_) (fun u15=>?_)
    ·replace h:=ifT (c:=(decide (u=3))) u15 h
     try simp only [go_sem]
     replace h:=AB h; obtain⟨u16,u17,h⟩:=h
     refine Ak (Pk  _ u17) (by (first|rfl|(simp only [go_sem]; rfl))) (by first|rfl|(simp only [go_sem])) (Z ?_)
     refine AF ?_
     replace h:=AB h; obtain⟨u18,u19,h⟩:=h
     refine AK u19 (TType.dz_len _) (Z ?_)
     refine Ai (AX u19) (Z ?_)
     refine Am (fun u20=>?_) (fun u20=>?_)
     ·replace h:=ifT (c:=(decide (u18.kind=1))) u20 h
      try simp only [go_sem]
      replace h:=AB h; obtain⟨u21,u22,h⟩:=h
      refine AK u22 (TType.dz_len _) (Z ?_)
      refine Ai (AX u22) (Z ?_)
      refine AF ?_
      cases h
      refine Aj (.done _) [(1501,1000002000)] [(1,1)] ?_
      simp only [go_sem]
     ·replace h:=ifF (c:=(decide (u18.kind=1))) u20 h
      try simp only [go_sem]
      refine AF ?_
      cases h
      refine Aj (.done _) [(1501,1000002000)] [(1,1)] ?_
      simp only [go_sem]
    ·replace h:=ifF (c:=(decide (u=3))) u15 h
     try simp only [go_sem]
     refine Am (fun u23=>?_) (fun u23=>?_)
     ·replace h:=ifT (c:=(decide (u=5))) u23 h
      try simp only [go_sem]
      refine AW [] .fin (by kernel_rfl) (Z ?_)
      replace h:=AB h; obtain⟨u24,u25,h⟩:=h
      refine AK u25 (TType.dz_len _) (Z ?_)
      refine Ai (AX u25) (Z ?_)
      refine Am (fun u26=>?_) (fun u26=>?_)
      ·replace h:=ifT (c:=(!decide (u24.kind=3))) u26 h
       try simp only [go_sem]
       exact Aq (Iw a1 u w y g j k b d e i true _ h) [(1000004000,1000002000),(1000004001,1000002001)] [(1,1)]
      ·replace h:=ifF (c:=(!decide (u24.kind=3))) u26 h
       try simp only [go_sem]
       replace h:=AB h; obtain⟨u27,u28,h⟩:=h
       refine AK u28 (TType.dz_len _) (Z ?_)
       refine Ai (AX u28) (Z ?_)
       replace h:=AB h; obtain⟨u29,u30,h⟩:=h
       refine AK u30 (TType.ds_len _) (Z ?_)
       replace h:=AB h; obtain⟨u9,u31,h⟩:=h
       refine AK u31 (TType.dz_len _) (Z ?_)
       refine Ai (AX u31) (Z ?_)
       replace h:=AB h; obtain⟨u32,u33,h⟩:=h
       refine AH (Ed fuel _ _ _ u33) (Z ?_)
       exact Aq (Iw a1 u w y g j k b d e i (!u32) _ h) [(1000004000,1000002000),(1000004001,1000002001)] [(1,1)]
     ·replace h:=ifF (c:=(decide (u=5))) u23 h
      try simp only [go_sem]
      refine Am (fun u34=>?_) (fun u34=>?_)
      ·replace h:=ifT (c:=(decide (u=8))) u34 h
       try simp only [go_sem]
       refine AW [] .fin (by kernel_rfl) (Z ?_)
       replace h:=AB h; obtain⟨u35,u36,h⟩:=h
       refine AH (DW _ _ _ u36) (Z ?_)
       refine AF ?_
       replace h:=AB h; obtain⟨u37,u38,h⟩:=h
       refine AK u38 (Data.ds_len _) (Z ?_)
       replace h:=AB h; obtain⟨u39,u40,h⟩:=h
       refine Ak (Nq _ _ u40) (by (first|rfl|(simp only [go_sem]; rfl))) (by first|rfl|(simp only [go_sem])) (Z ?_)
       refine AF ?_
       replace h:=AB h; obtain⟨u41,u42,h⟩:=h
       refine AK u42 (Data.ds_len _) (Z ?_)
       replace h:=AB h; obtain⟨u43,u44,h⟩:=h
       refine AK u44 (Constructor.ds_len _) (Z ?_)
       replace h:=AB h; obtain⟨u45,u46,h⟩:=h
       refine AH (GX _ _ _ 47 [] (Still.of rfl) (fun y0 y1 q hq=>Ed fuel y0 y1  q hq) _ u46) (Z ?_)
       refine AF ?_
       cases h
       refine Aj (.done _) [(1501,1000002000)] [(1,1)] ?_
       simp only [go_sem]
      ·replace h:=ifF (c:=(decide (u=8))) u34 h
       try simp only [go_sem]
       refine AF ?_
       replace h:=AB h; obtain⟨u47,u48,h⟩:=h
       refine AK u48 (TType.dz_len _) (Z ?_)
       refine Ai (AX u48) (Z ?_)
       refine AW [] .fin (by kernel_rfl) (Z ?_)
       replace h:=AB h; obtain⟨u49,u50,h⟩:=h
       refine AK u50 (TType.dz_len _) (Z ?_)
       refine Ai (AX u50) (Z ?_)
       refine Am (fun u51=>?_) (fun u51=>?_)
       ·replace h:=ifT (c:=(decide (u49.kind=1))) u51 h
        try simp only [go_sem]
        replace h:=AB h; obtain⟨u52,u53,h⟩:=h
        refine AK u53 (TType.dz_len _) (Z ?_)
        refine Ai (AX u53) (Z ?_)
        replace h:=AB h; obtain⟨u54,u55,h⟩:=h
        refine AK u55 (TType.dz_len _) (Z ?_)
        refine Ai (AX u55) (Z ?_)
        replace h:=AB h; obtain⟨u56,u57,h⟩:=h
        refine AH (Ed fuel _ _ _ u57) (Z ?_)
        refine AF ?_
        cases h
        refine Aj (.done _) [(1501,1000002000)] [(1,1)] ?_
        simp only [go_sem]
       ·replace h:=ifF (c:=(decide (u49.kind=1))) u51 h
        try simp only [go_sem]
        refine AF ?_
        cases h
        refine Aj (.done _) [(1501,1000002000)] [(1,1)] ?_
        simp only [go_sem]
  ·intro a0 a1 a2 a3 r h
   rw [B6] at h
   refine agF Tryz.func78 mixed (h:=Z ?_)
   refine AF ?_
   refine AW [] .fin (by kernel_rfl) (Z ?_)
   replace h:=AB h; obtain⟨u58,u59,h⟩:=h
   refine AK u59 (Term.ds_len _) (Z ?_)
   replace h:=AB h; obtain⟨u60,u61,h⟩:=h
   refine Ak (ih3 _ _ _ _ _ u61) (by (first|rfl|(simp only [go_sem]; rfl))) (by first|rfl|(simp only [go_sem])) (Z ?_)
   refine AF ?_
   replace h:=AB h; obtain⟨u62,u63,h⟩:=h
   have hq_:=Ca u63
   obtain⟨hv3007a,hv3007b⟩:=hq_
   refine G9 true (Z ?_)
   refine Bl (by refine⟨?_,?_⟩ <;> (try simp only [List.length_map,List.length_append,List.length_cons,List.length_nil] at*) <;> (try unfold maxLen) <;> omega) (Z ?_)
   refine Av (u62.map (pD Node.ds)) (by rw [← hv3007b]; simp only [List.map_append,List.map_cons,List.map_nil,List.nil_append,List.append_nil,go_sem,pD,Node.ds_eq,Ly]) (Z ?_)
   refine AF ?_
   cases h
   refine Aj (.done _) [(1501,48112)] [(1,1)] ?_
   simp only [go_sem]
  ·intro a0 a1 a2 a3 r h
   rw [AM] at h
   refine agF Tryz.func35 mixed (h:=Z ?_)
   refine Am (fun u13=>?_) (fun u13=>?_)
   ·replace h:=ifT (c:=(decide (a1.kind=1))) u13 h
    try simp only [go_sem]
    replace h:=AB h; obtain⟨u64,u65,h⟩:=h
    refine caG ⟨[(3000112048,.nils,some 1)],[(1001,3000112048)],[(1,2003,0)],[(1501,112048)],[],true⟩ (NX _ _ _ _ u65) (Z ?_)
    exact Aq (CY a1 u64.2.term.kind u64.2.term.num u64.2.term.name u64.2.term.typ.kind u64.2.term.typ.name u64.2.typ.kind u64.2.typ.name u64.2.typ.kids u64.2.level u64.2.kids [] u64.2.binder u64.1 _ h) [(1000001000,112048)] [(1000001500,2003)]
   ·replace h :=ifF (c:=(decide (a1.kind=1))) u13 h
    try simp only [go_sem]
    refine Am (fun u15=>?_) (fun u15=>?_)
    ·replace h:=ifT (c:=(decide (a1.kind=2))) u15 h
     try simp only [go_sem]
     replace h:=AB h; obtain⟨u66,u67,h⟩:=h
     refine Ak (Pk  _ u67) (by (first|rfl|(simp only [go_sem]; rfl))) (by first|rfl|(simp only [go_sem])) (Z ?_)
     refine Xw (Iz rfl rfl (CY a1 a1.kind a1.num a1.name a1.typ.kind a1.typ.name u66.kind u66.name u66.kids a3 [] [] none true _ h):) (.one ⟨_,.cell 2003 12 2000000000 (some 1) true _ (by simp only [go_sem]; rfl) (by rfl) (by simp only [go_sem]) (.frzN [] [(2003,13)] _ _ (by (first|rfl|(simp only [go_sem]; rfl))) (by (first|rfl|(simp only [go_sem]; rfl))) (.done _)),[(1000001000,2000000000)],[(1000001500,2003)],?_⟩)
     simp only [go_sem]
     all_goals try rfl
    ·replace h:=ifF (c:=(decide (a1.kind=2))) u15 h
     try simp only [go_sem]
     refine Am (fun u20=>?_) (fun u20=>?_)
     ·replace h:=ifT (c:=(decide (a1.kind=4))) u20 h
      try simp only [go_sem]
      refine SV (.frzB 11007 [] [(11008,0)] _ _ _ (by (first|rfl|(simp only [go_sem]; rfl))) (by decide) (by rfl) (by (first|rfl|(simp only [go_sem]; rfl))) (by (first|rfl|(simp only [go_sem]; rfl))) (.frzB 11008 [] [(2003,13)] _ _ _ (by (first|rfl|(simp only [go_sem]; rfl))) (by decide) (by rfl) (by (first|rfl|(simp only [go_sem]; rfl))) (by (first|rfl|(simp only [go_sem]; rfl))) (.done _))) (Z ?_)
      all_goals try rfl
      replace h:=AB h; obtain⟨u68,u69,h⟩:=h
      replace h:=AB h; obtain⟨u70,u71,h⟩:=h
      refine AW [true,false,false,false,true,true,true,true,false,true,true,true,true,true,true,true] (.br 0 (.br 4 (Tr.sq [5] (.br 6 (.br 7 (.br 9 (Tr.sq [10,11,12,13,14,15] .fin) (.br 13 (Tr.sq [9,10,11,12,14,15] .fin) .stop)) (.br 13 (Tr.sq [7,9,10,11,12,14,15] .fin) .stop)) (.br 13 (Tr.sq [6,7,9,10,11,12,14,15] .fin) .stop))) (.br 13 (Tr.sq [4,5,6,7,9,10,11,12,14,15] .fin) .stop)) (.br 4 (Tr.sq [5] (.br 0 (.br 6 (.br 7 (.br 9 (Tr.sq [10,11,12,13,14,15] .fin) (.br 13 (Tr.sq [9,10,11,12,14,15] .fin) .stop)) (.br 13 (Tr.sq [7,9,10,11,12,14,15] .fin) .stop)) (.br 13 (Tr.sq [6,7,9,10,11,12,14,15] .fin) .stop)) (.br 6 (.br 0 (.br 7 (.br 9 (Tr.sq [10,11,12,13,14,15] .fin) (.br 13 (Tr.sq [9,10,11,12,14,15] .fin) .stop)) (.br 13 (Tr.sq [7,9,10,11,12,14,15] .fin) .stop)) (.br 7 (.br 0 (.br 9 (Tr.sq [10,11,12,13,14,15] .fin) (.br 13 (Tr.sq [9,10,11,12,14,15] .fin) .stop)) (.br 13 (Tr.sq [0,9,10,11,12,14,15] .fin) .stop)) (.br 13 (.br 0 (Tr.sq [7,9,10,11,12,14,15] .fin) (.br 7 (Tr.sq [0,9,10,11,12,14,15] .fin) .stop)) .stop))) (.br 13 (.br 0 (Tr.sq [6,7,9,10,11,12,14,15] .fin) (.br 6 (.br 0 (Tr.sq [7,9,10,11,12,14,15] .fin) (.br 7 (Tr.sq [0,9,10,11,12,14,15] .fin) .stop)) .stop)) .stop)))) (.br 13 (.br 0 (Tr.sq [4,5,6,7,9,10,11,12,14,15] .fin) (.br 4 (Tr.sq [5] (.br 0 (Tr.sq [6,7,9,10,11,12,14,15] .fin) (.br 6 (.br 0 (Tr.sq [7,9,10,11,12,14,15] .fin) (.br 7 (Tr.sq [0,9,10,11,12,14,15] .fin) .stop)) .stop))) .stop)) .stop))) (by kernel_rfl) ?_
      try simp only [go_sem]
      refine Au ?_ ?_
      ·try simp only [go_sem]
       refine Au ?_ ?_
       ·try simp only [go_sem]
        refine Au ?_ ?_
        ·try simp only [go_sem]
         refine Au (Z ?_) (Z ?_)
         ·refine Ak (Ae _ _ _ u69) (by (first|rfl|(simp only [go_sem]; rfl))) (by first|rfl|(simp only [go_sem])) ?_
          try simp only [go_sem]
          refine Au (Z ?_) (Z ?_)
          ·refine caG ⟨[(3000192144,.nils,some 1)],[(1001,3000192144)],[(1,2003,0)],[(1501,192144)],[],true⟩ (ih2 _ _ _ _ _ u71) (Z ?_)
           exact Aq (AO a1 a3 u70 _ h) [(1000000000,192144)] [(1000000500,1001),(1000000501,2003),(1000000502,12013)]
          ·refine caG ⟨[(3000192144,.nils,some 1)],[(1001,3000192144)],[(1,2003,0)],[(1501,192144)],[],true⟩ (ih2 _ _ _ _ _ u71) (Z ?_)
           exact Aq (AO a1 a3 u70 _ h) [(1000000000,192144)] [(1000000500,1001),(1000000501,2003),(1000000502,12013)]
         ·refine Ak (Ae _ _ _ u69) (by (first|rfl|(simp only [go_sem]; rfl))) (by first|rfl|(simp only [go_sem])) (Z ?_)
          refine caG ⟨[(3000192144,.nils,some 1)],[(1001,3000192144)],[(1,2003,0)],[(1501,192144)],[],true⟩ (ih2 _ _ _ _ _ u71) (Z ?_)
          exact Aq (AO a1 a3 u70 _ h) [(1000000000,192144)] [(1000000500,1001),(1000000501,2003),(1000000502,12013)]
        ·try simp only [go_sem]
         refine Ak (Ae _ _ _ u69) (by (first|rfl|(simp only [go_sem]; rfl))) (by first|rfl|(simp only [go_sem])) (Z ?_)
         refine caG ⟨[(3000192144,.nils,some 1)],[(1001,3000192144)],[(1,2003,0)],[(1501,192144)],[],true⟩ (ih2 _ _ _ _ _ u71) (Z ?_)
         exact Aq (AO a1 a3 u70 _ h) [(1000000000,192144)] [(1000000500,1001),(1000000501,2003),(1000000502,12013)]
       ·try simp only [go_sem]
        refine Ak (Ae _ _ _ u69) (by (first|rfl|(simp only [go_sem]; rfl))) (by first|rfl|(simp only [go_sem])) (Z ?_)
        refine caG ⟨[(3000192144,.nils,some 1)],[(1001,3000192144)],[(1,2003,0)],[(1501,192144)],[],true⟩ (ih2 _ _ _ _ _ u71) (Z ?_)
        exact Aq (AO a1 a3 u70 _ h) [(1000000000,192144)] [(1000000500,1001),(1000000501,2003),(1000000502,12013)]
      ·try simp only [go_sem]
       refine Au ?_ ?_
       ·try simp only [go_sem]
        refine Au ?_ ?_
        ·try simp only [go_sem]
         refine Au ?_ ?_
         ·try simp only [go_sem]
          refine Au (Z ?_) (Z ?_)
          ·refine Ak (Ae _ _ _ u69) (by (first|rfl|(simp only [go_sem]; rfl))) (by first|rfl|(simp only [go_sem])) ?_
           try simp only [go_sem]
           refine Au (Z ?_) (Z ?_)
           ·refine caG ⟨[(3000192144,.nils,some 1)],[(1001,3000192144)],[(1,2003,0)],[(1501,192144)],[],true⟩ (ih2 _ _ _ _ _ u71) (Z ?_)
            exact Aq (AO a1 a3 u70 _ h) [(1000000000,192144)] [(1000000500,1001),(1000000501,2003),(1000000502,12013)]
           ·refine caG ⟨[(3000192144,.nils,some 1)],[(1001,3000192144)],[(1,2003,0)],[(1501,192144)],[],true⟩ (ih2 _ _ _ _ _ u71) (Z ?_)
            exact Aq (AO a1 a3 u70 _ h) [(1000000000,192144)] [(1000000500,1001),(1000000501,2003),(1000000502,12013)]
          ·refine Ak (Ae _ _ _ u69) (by (first|rfl|(simp only [go_sem]; rfl))) (by first|rfl|(simp only [go_sem])) (Z ?_)
           refine caG ⟨[(3000192144,.nils,some 1)],[(1001,3000192144)],[(1,2003,0)],[(1501,192144)],[],true⟩ (ih2 _ _ _ _ _ u71) (Z ?_)
           exact Aq (AO a1 a3 u70 _ h) [(1000000000,192144)] [(1000000500,1001),(1000000501,2003),(1000000502,12013)]
         ·try simp only [go_sem]
          refine Ak (Ae _ _ _ u69) (by (first|rfl|(simp only [go_sem]; rfl))) (by first|rfl|(simp only [go_sem])) (Z ?_)
          refine caG ⟨[(3000192144,.nils,some 1)],[(1001,3000192144)],[(1,2003,0)],[(1501,192144)],[],true⟩ (ih2 _ _ _ _ _ u71) (Z ?_)
          exact Aq (AO a1 a3 u70 _ h) [(1000000000,192144)] [(1000000500,1001),(1000000501,2003),(1000000502,12013)]
        ·try simp only [go_sem]
         refine Au ?_ ?_
         ·try simp only [go_sem]
          refine Au ?_ ?_
          ·try simp only [go_sem]
           refine Au (Z ?_) (Z ?_)
           ·refine Ak (Ae _ _ _ u69) (by (first|rfl|(simp only [go_sem]; rfl))) (by first|rfl|(simp only [go_sem])) ?_
            try simp only [go_sem]
            refine Au (Z ?_) (Z ?_)
            ·refine caG ⟨[(3000192144,.nils,some 1)],[(1001,3000192144)],[(1,2003,0)],[(1501,192144)],[],true⟩ (ih2 _ _ _ _ _ u71) (Z ?_)
             exact Aq (AO a1 a3 u70 _ h) [(1000000000,192144)] [(1000000500,1001),(1000000501,2003),(1000000502,12013)]
            ·refine caG ⟨[(3000192144,.nils,some 1)],[(1001,3000192144)],[(1,2003,0)],[(1501,192144)],[],true⟩ (ih2 _ _ _ _ _ u71) (Z ?_)
             exact Aq (AO a1 a3 u70 _ h) [(1000000000,192144)] [(1000000500,1001),(1000000501,2003),(1000000502,12013)]
           ·refine Ak (Ae _ _ _ u69) (by (first|rfl|(simp only [go_sem]; rfl))) (by first|rfl|(simp only [go_sem])) (Z ?_)
            refine caG ⟨[(3000192144,.nils,some 1)],[(1001,3000192144)],[(1,2003,0)],[(1501,192144)],[],true⟩ (ih2 _ _ _ _ _ u71) (Z ?_)
            exact Aq (AO a1 a3 u70 _ h) [(1000000000,192144)] [(1000000500,1001),(1000000501,2003),(1000000502,12013)]
          ·try simp only [go_sem]
           refine Au ?_ ?_
           ·try simp only [go_sem]
            refine Ak (Ae _ _ _ u69) (by (first|rfl|(simp only [go_sem]; rfl))) (by first|rfl|(simp only [go_sem])) ?_
            try simp only [go_sem]
            refine Au ?_ ?_
            ·try simp only [go_sem]
             refine Au (Z ?_) (Z ?_)
             ·refine caG ⟨[(3000192144,.nils,some 1)],[(1001,3000192144)],[(1,2003,0)],[(1501,192144)],[],true⟩ (ih2 _ _ _ _ _ u71) (Z ?_)
              exact Aq (AO a1 a3 u70 _ h) [(1000000000,192144)] [(1000000500,1001),(1000000501,2003),(1000000502,12013)]
             ·refine caG ⟨[(3000192144,.nils,some 1)],[(1001,3000192144)],[(1,2003,0)],[(1501,192144)],[],true⟩ (ih2 _ _ _ _ _ u71) (Z ?_)
              exact Aq (AO a1 a3 u70 _ h) [(1000000000,192144)] [(1000000500,1001),(1000000501,2003),(1000000502,12013)]
            ·try simp only [go_sem]
             refine caG ⟨[(3000192144,.nils,some 1)],[(1001,3000192144)],[(1,2003,0)],[(1501,192144)],[],true⟩ (ih2 _ _ _ _ _ u71) (Z ?_)
             exact Aq (AO a1 a3 u70 _ h) [(1000000000,192144)] [(1000000500,1001),(1000000501,2003),(1000000502,12013)]
           ·try simp only [go_sem]
            refine Au (Z ?_) (Z ?_)
            ·refine Ak (Ae _ _ _ u69) (by (first|rfl|(simp only [go_sem]; rfl))) (by first|rfl|(simp only [go_sem])) (Z ?_)
             refine caG ⟨[(3000192144,.nils,some 1)],[(1001,3000192144)],[(1,2003,0)],[(1501,192144)],[],true⟩ (ih2 _ _ _ _ _ u71) (Z ?_)
             exact Aq (AO a1 a3 u70 _ h) [(1000000000,192144)] [(1000000500,1001),(1000000501,2003),(1000000502,12013)]
            ·refine Ak (Ae _ _ _ u69) (by (first|rfl|(simp only [go_sem]; rfl))) (by first|rfl|(simp only [go_sem])) (Z ?_)
             refine caG ⟨[(3000192144,.nils,some 1)],[(1001,3000192144)],[(1,2003,0)],[(1501,192144)],[],true⟩ (ih2 _ _ _ _ _ u71) (Z ?_)
             exact Aq (AO a1 a3 u70 _ h) [(1000000000,192144)] [(1000000500,1001),(1000000501,2003),(1000000502,12013)]
         ·try simp only [go_sem]
          refine Au ?_ ?_
          ·try simp only [go_sem]
           refine Ak (Ae _ _ _ u69) (by (first|rfl|(simp only [go_sem]; rfl))) (by first|rfl|(simp only [go_sem])) (Z ?_)
           refine caG ⟨[(3000192144,.nils,some 1)],[(1001,3000192144)],[(1,2003,0)],[(1501,192144)],[],true⟩ (ih2 _ _ _ _ _ u71) (Z ?_)
           exact Aq (AO a1 a3 u70 _ h) [(1000000000,192144)] [(1000000500,1001),(1000000501,2003),(1000000502,12013)]
          ·try simp only [go_sem]
           refine Au (Z ?_) (Z ?_)
           ·refine Ak (Ae _ _ _ u69) (by (first|rfl|(simp only [go_sem]; rfl))) (by first|rfl|(simp only [go_sem])) (Z ?_)
            refine caG ⟨[(3000192144,.nils,some 1)],[(1001,3000192144)],[(1,2003,0)],[(1501,192144)],[],true⟩ (ih2 _ _ _ _ _ u71) (Z ?_)
            exact Aq (AO a1 a3 u70 _ h) [(1000000000,192144)] [(1000000500,1001),(1000000501,2003),(1000000502,12013)]
           ·refine Ak (Ae _ _ _ u69) (by (first|rfl|(simp only [go_sem]; rfl))) (by first|rfl|(simp only [go_sem])) (Z ?_)
            refine caG ⟨[(3000192144,.nils,some 1)],[(1001,3000192144)],[(1,2003,0)],[(1501,192144)],[],true⟩ (ih2 _ _ _ _ _ u71) (Z ?_)
            exact Aq (AO a1 a3 u70 _ h) [(1000000000,192144)] [(1000000500,1001),(1000000501,2003),(1000000502,12013)]
       ·try simp only [go_sem]
        refine Au ?_ ?_
        ·try simp only [go_sem]
         refine Ak (Ae _ _ _ u69) (by (first|rfl|(simp only [go_sem]; rfl))) (by first|rfl|(simp only [go_sem])) (Z ?_)
         refine caG ⟨[(3000192144,.nils,some 1)],[(1001,3000192144)],[(1,2003,0)],[(1501,192144)],[],true⟩ (ih2 _ _ _ _ _ u71) (Z ?_)
         exact Aq (AO a1 a3 u70 _ h) [(1000000000,192144)] [(1000000500,1001),(1000000501,2003),(1000000502,12013)]
        ·try simp only [go_sem]
         refine Au ?_ ?_
         ·try simp only [go_sem]
          refine Ak (Ae _ _ _ u69) (by (first|rfl|(simp only [go_sem]; rfl))) (by first|rfl|(simp only [go_sem])) (Z ?_)
          refine caG ⟨[(3000192144,.nils,some 1)],[(1001,3000192144)],[(1,2003,0)],[(1501,192144)],[],true⟩ (ih2 _ _ _ _ _ u71) (Z ?_)
          exact Aq (AO a1 a3 u70 _ h) [(1000000000,192144)] [(1000000500,1001),(1000000501,2003),(1000000502,12013)]
         ·try simp only [go_sem]
          refine Au (Z ?_) (Z ?_)
          ·refine Ak (Ae _ _ _ u69) (by (first|rfl|(simp only [go_sem]; rfl))) (by first|rfl|(simp only [go_sem])) (Z ?_)
           refine caG ⟨[(3000192144,.nils,some 1)],[(1001,3000192144)],[(1,2003,0)],[(1501,192144)],[],true⟩ (ih2 _ _ _ _ _ u71) (Z ?_)
           exact Aq (AO a1 a3 u70 _ h) [(1000000000,192144)] [(1000000500,1001),(1000000501,2003),(1000000502,12013)]
          ·refine Ak (Ae _ _ _ u69) (by (first|rfl|(simp only [go_sem]; rfl))) (by first|rfl|(simp only [go_sem])) (Z ?_)
           refine caG ⟨[(3000192144,.nils,some 1)],[(1001,3000192144)],[(1,2003,0)],[(1501,192144)],[],true⟩ (ih2 _ _ _ _ _ u71) (Z ?_)
           exact Aq (AO a1 a3 u70 _ h) [(1000000000,192144)] [(1000000500,1001),(1000000501,2003),(1000000502,12013)]
     ·replace h:=ifF (c:=(decide (a1.kind=4))) u20 h
      try simp only [go_sem]
      refine Am (fun u23=>?_) (fun u23=>?_)
      ·replace h:=ifT (c:=(decide (a1.kind=6))) u23 h
       try simp only [go_sem]
       replace h:=AB h; obtain⟨u72,u73,h⟩:=h
       refine caG ⟨[(3000240080,.nils,some 1)],[(1001,3000240080)],[(1,2003,0)],[(1501,240080)],[],true⟩ (ih2 _ _ _ _ _ u73) (Z ?_)
       refine AF ?_
       replace h:=AB h; obtain⟨u74,u75,h⟩:=h
       refine Ak (Tn _ _ u75) (by (first|rfl|(simp only [go_sem]; rfl))) (by first|rfl|(simp only [go_sem])) (Z ?_)
       exact Aq (CY a1 u72.2.2.term.kind u72.2.2.term.num u72.2.2.term.name u72.2.2.term.typ.kind u72.2.2.term.typ.name u74.kind u74.name u74.kids u72.2.2.level u72.2.2.kids [] none u72.2.1 _ h) [(1000001000,240080)] [(1000001500,2003)]
      ·replace h:=ifF (c:=(decide (a1.kind=6))) u23 h
       try simp only [go_sem]
       refine Am (fun u26=>?_) (fun u26=>?_)
       ·replace h:=ifT (c:=(decide (a1.kind=7))) u26 h
        try simp only [go_sem]
        replace h:=AB h; obtain⟨u76,u77,h⟩:=h
        refine caG ⟨[(3000288048,.nils,some 1)],[(1001,3000288048)],[(1,2003,0)],[(1501,288048)],[],true⟩ (ih4 _ _ _ _ u77) (Z ?_)
        exact Aq (CY a1 u76.2.term.kind u76.2.term.num u76.2.term.name u76.2.term.typ.kind u76.2.term.typ.name u76.2.typ.kind u76.2.typ.name u76.2.typ.kids u76.2.level u76.2.kids u76.2.binds none u76.1 _ h) [(1000001000,288048)] [(1000001500,2003)]
       ·replace h:=ifF (c:=(decide (a1.kind=7))) u26 h
        try simp only [go_sem]
        refine Am (fun u34=>?_) (fun u34=>?_)
        ·replace h:=ifT (c:=(decide (a1.kind=9))) u34 h
         try simp only [go_sem]
         replace h:=AB h; obtain⟨u78,u79,h⟩:=h
         refine caG ⟨[(3000320048,.nils,some 1)],[(1001,3000320048)],[(1,2003,0)],[(1501,320048)],[],true⟩ (ih8 _ _ _ _ u79) (Z ?_)
         exact Aq (CY a1 u78.2.term.kind u78.2.term.num u78.2.term.name u78.2.term.typ.kind u78.2.term.typ.name u78.2.typ.kind u78.2.typ.name u78.2.typ.kids u78.2.level u78.2.kids [] none u78.1 _ h) [(1000001000,320048)] [(1000001500,2003)]
        ·replace h:=ifF (c:=(decide (a1.kind=9))) u34 h
         try simp only [go_sem]
         replace h:=AB h; obtain⟨u80,u81,h⟩:=h
         refine caG ⟨[(3000080048,.nils,some 1)],[(1001,3000080048)],[(1,2003,0)],[(1501,80048)],[],true⟩ (ih0 _ _ _ _ u81) (Z ?_)
         exact Aq (CY a1 u80.2.term.kind u80.2.term.num u80.2.term.name u80.2.term.typ.kind u80.2.term.typ.name u80.2.typ.kind u80.2.typ.name u80.2.typ.kids u80.2.level u80.2.kids [] none u80.1 _ h) [(1000001000,80048)] [(1000001500,2003)]
  ·intro a0 a1 a2 r h
   rw [F9] at h
   refine agF Tryz.func82 mixed (h:=Z ?_)
   replace h:=AB h; obtain⟨t,u82,h⟩:=h
   refine AW [true,false,false,false,true,true,true,true,true,true,true,true,true,true] (.br 0 (.br 4 (Tr.sq [5] (.br 6 (.br 7 (Tr.sq [8,9,10,11,12,13] .fin) (.br 11 (Tr.sq [7,8,9,10,12,13] .fin) .stop)) (.br 11 (Tr.sq [6,7,8,9,10,12,13] .fin) .stop))) (.br 11 (Tr.sq [4,5,6,7,8,9,10,12,13] .fin) .stop)) (.br 4 (Tr.sq [5] (.br 0 (.br 6 (.br 7 (Tr.sq [8,9,10,11,12,13] .fin) (.br 11 (Tr.sq [7,8,9,10,12,13] .fin) .stop)) (.br 11 (Tr.sq [6,7,8,9,10,12,13] .fin) .stop)) (.br 6 (.br 0 (.br 7 (Tr.sq [8,9,10,11,12,13] .fin) (.br 11 (Tr.sq [7,8,9,10,12,13] .fin) .stop)) (.br 11 (Tr.sq [0,7,8,9,10,12,13] .fin) .stop)) (.br 11 (.br 0 (Tr.sq [6,7,8,9,10,12,13] .fin) (.br 6 (Tr.sq [0,7,8,9,10,12,13] .fin) .stop)) .stop)))) (.br 11 (.br 0 (Tr.sq [4,5,6,7,8,9,10,12,13] .fin) (.br 4 (Tr.sq [5] (.br 0 (Tr.sq [6,7,8,9,10,12,13] .fin) (.br 6 (Tr.sq [0,7,8,9,10,12,13] .fin) .stop))) .stop)) .stop))) (by kernel_rfl) ?_
   try simp only [go_sem]
   refine Au ?_ ?_
   ·try simp only [go_sem]
    refine Au ?_ ?_
    ·try simp only [go_sem]
     refine Au ?_ ?_
     ·try simp only [go_sem]
      refine Au (Z ?_) (Z ?_)
      ·refine caG ⟨[],[(1001,1001)],[(1,1,0)],[(1501,32112)],[],true⟩ (ih2 _ _ _ _ _ u82) (Z ?_)
       exact Aq (ih5 a0 a1 a2 t _ h) [(1000000000,32112)] [(1,1),(1000000500,1000),(1000000501,2011)]
      ·refine caG ⟨[],[(1001,1001)],[(1,1,0)],[(1501,32112)],[],true⟩ (ih2 _ _ _ _ _ u82) (Z ?_)
       exact Aq (ih5 a0 a1 a2 t _ h) [(1000000000,32112)] [(1,1),(1000000500,1000),(1000000501,2011)]
     ·try simp only [go_sem]
      refine caG ⟨[],[(1001,1001)],[(1,1,0)],[(1501,32112)],[],true⟩ (ih2 _ _ _ _ _ u82) (Z ?_)
      exact Aq (ih5 a0 a1 a2 t _ h) [(1000000000,32112)] [(1,1),(1000000500,1000),(1000000501,2011)]
    ·try simp only [go_sem]
     refine caG ⟨[],[(1001,1001)],[(1,1,0)],[(1501,32112)],[],true⟩ (ih2 _ _ _ _ _ u82) (Z ?_)
     exact Aq (ih5 a0 a1 a2 t _ h) [(1000000000,32112)] [(1,1),(1000000500,1000),(1000000501,2011)]
   ·try simp only [go_sem]
    refine Au ?_ ?_
    ·try simp only [go_sem]
     refine Au ?_ ?_
     ·try simp only [go_sem]
      refine Au ?_ ?_
      ·try simp only [go_sem]
       refine Au (Z ?_) (Z ?_)
       ·refine caG ⟨[],[(1001,1001)],[(1,1,0)],[(1501,32112)],[],true⟩ (ih2 _ _ _ _ _ u82) (Z ?_)
        exact Aq (ih5 a0 a1 a2 t _ h) [(1000000000,32112)] [(1,1),(1000000500,1000),(1000000501,2011)]
       ·refine caG ⟨[],[(1001,1001)],[(1,1,0)],[(1501,32112)],[],true⟩ (ih2 _ _ _ _ _ u82) (Z ?_)
        exact Aq (ih5 a0 a1 a2 t _ h) [(1000000000,32112)] [(1,1),(1000000500,1000),(1000000501,2011)]
      ·try simp only [go_sem]
       refine caG ⟨[],[(1001,1001)],[(1,1,0)],[(1501,32112)],[],true⟩ (ih2 _ _ _ _ _ u82) (Z ?_)
       exact Aq (ih5 a0 a1 a2 t _ h) [(1000000000,32112)] [(1,1),(1000000500,1000),(1000000501,2011)]
     ·try simp only [go_sem]
      refine Au ?_ ?_
      ·try simp only [go_sem]
       refine Au ?_ ?_
       ·try simp only [go_sem]
        refine Au (Z ?_) (Z ?_)
        ·refine caG ⟨[],[(1001,1001)],[(1,1,0)],[(1501,32112)],[],true⟩ (ih2 _ _ _ _ _ u82) (Z ?_)
         exact Aq (ih5 a0 a1 a2 t _ h) [(1000000000,32112)] [(1,1),(1000000500,1000),(1000000501,2011)]
        ·refine caG ⟨[],[(1001,1001)],[(1,1,0)],[(1501,32112)],[],true⟩ (ih2 _ _ _ _ _ u82) (Z ?_)
         exact Aq (ih5 a0 a1 a2 t _ h) [(1000000000,32112)] [(1,1),(1000000500,1000),(1000000501,2011)]
       ·try simp only [go_sem]
        refine caG ⟨[],[(1001,1001)],[(1,1,0)],[(1501,32112)],[],true⟩ (ih2 _ _ _ _ _ u82) (Z ?_)
        exact Aq (ih5 a0 a1 a2 t _ h) [(1000000000,32112)] [(1,1),(1000000500,1000),(1000000501,2011)]
      ·try simp only [go_sem]
       refine Au (Z ?_) (Z ?_)
       ·refine caG ⟨[],[(1001,1001)],[(1,1,0)],[(1501,32112)],[],true⟩ (ih2 _ _ _ _ _ u82) (Z ?_)
        exact Aq (ih5 a0 a1 a2 t _ h) [(1000000000,32112)] [(1,1),(1000000500,1000),(1000000501,2011)]
       ·refine caG ⟨[],[(1001,1001)],[(1,1,0)],[(1501,32112)],[],true⟩ (ih2 _ _ _ _ _ u82) (Z ?_)
        exact Aq (ih5 a0 a1 a2 t _ h) [(1000000000,32112)] [(1,1),(1000000500,1000),(1000000501,2011)]
    ·try simp only [go_sem]
     refine Au ?_ ?_
     ·try simp only [go_sem]
      refine caG ⟨[],[(1001,1001)],[(1,1,0)],[(1501,32112)],[],true⟩ (ih2 _ _ _ _ _ u82) (Z ?_)
      exact Aq (ih5 a0 a1 a2 t _ h) [(1000000000,32112)] [(1,1),(1000000500,1000),(1000000501,2011)]
     ·try simp only [go_sem]
      refine Au (Z ?_) (Z ?_)
      ·refine caG ⟨[],[(1001,1001)],[(1,1,0)],[(1501,32112)],[],true⟩ (ih2 _ _ _ _ _ u82) (Z ?_)
       exact Aq (ih5 a0 a1 a2 t _ h) [(1000000000,32112)] [(1,1),(1000000500,1000),(1000000501,2011)]
      ·refine caG ⟨[],[(1001,1001)],[(1,1,0)],[(1501,32112)],[],true⟩ (ih2 _ _ _ _ _ u82) (Z ?_)
       exact Aq (ih5 a0 a1 a2 t _ h) [(1000000000,32112)] [(1,1),(1000000500,1000),(1000000501,2011)]
  ·intro a0 a1 a2 t r h
   rw [Ey] at h
   refine BI rfl rfl (Z ?_)
   refine AW [] .fin (by kernel_rfl) (Z ?_)
   refine AF ?_
   refine Am (fun u13=>?_) (fun u13=>?_)
   ·replace h:=ifT (c:=(!t.2.1)) u13 h
    try simp only [go_sem]
    exact Aq (ih6 a0 a1 a2 t true _ h) [(1000001000,1000000000)] [(1,1),(1000001500,1000000500),(1000001501,1000000501),(1000001502,3011)]
   ·replace h:=ifF (c:=(!t.2.1)) u13 h
    try simp only [go_sem]
    refine Am (fun u15=>?_) (fun u15=>?_)
    ·replace h:=ifT (c:=(!decide (t.1.kind =1))) u15 h
     try simp only [go_sem]
     exact Aq (ih6 a0 a1 a2 t (!decide (t.1.kind =4)) _ h) [(1000001000,1000000000)] [(1,1),(1000001500,1000000500),(1000001501,1000000501),(1000001502,3011)]
    ·replace h:=ifF (c:=(!decide (t.1.kind =1))) u15 h
     try simp only [go_sem]
     exact Aq (ih6 a0 a1 a2 t false _ h) [(1000001000,1000000000)] [(1,1),(1000001500,1000000500),(1000001501,1000000501),(1000001502,3011)]
  ·intro a0 a1 a2 t s r h
   rw [BB] at h
   refine BI rfl rfl (Z ?_)
   refine Am (fun u20=>?_) (fun u20=>?_)
   ·replace h:=ifT (c:=s) u20 h
    try simp only [go_sem]
    cases h
    refine Aj (.done _) [(1501,1000001000)] [(1,1)] ?_
    simp only [go_sem]
   ·replace h:=ifF (c:=s) u20 h
    try simp only [go_sem]
    refine Am (fun u23=>?_) (fun u23=>?_)
    ·replace h:=ifT (c:=(decide (t.1.kind =4))) u23 h
     try simp only [go_sem]
     refine AW [false,false,false,false,false,false,false,false,false,false,false,false,false,true,true,true,true] (Tr.sq [13,14,15,16] .fin) (by kernel_rfl) (Z ?_)
     replace h:=AB h; obtain⟨u83,u84,h⟩:=h
     refine AK u84 (TType.ds_len _) (Z ?_)
     exact Aq (ih7 a0 a1 a2 t u83.kind u83.name u83.kids (IntKind.i64.wrap (t.2.2.level +1)) _ h) [(1000002000,1000001000)] [(1,1),(1000002500,1000001500),(1000002501,1000001502)]
    ·replace h:=ifF (c:=(decide (t.1.kind =4))) u23 h
     try simp only [go_sem]
     exact Aq (ih7 a0 a1 a2 t t.1.kind t.1.name t.1.kids t.2.2.level _ h) [(1000002000,1000001000)] [(1,1),(1000002500,1000001500),(1000002501,1000001502)]
  ·intro a0 a1 a2 t u w y g r h
   rw [CP] at h
   refine BI rfl rfl (Z ?_)
   refine SV (.frzB 1000002501 [] [(8002,0)] _ _ _ (by (first|rfl|(simp only [go_sem]; rfl))) (by decide) (by rfl) (by (first|rfl|(simp only [go_sem]; rfl))) (by (first|rfl|(simp only [go_sem]; rfl))) (.frzB 8002 [] [(1,13)] _ _ _ (by (first|rfl|(simp only [go_sem]; rfl))) (by decide) (by rfl) (by (first|rfl|(simp only [go_sem]; rfl))) (by (first|rfl|(simp only [go_sem]; rfl))) (.done _))) (Z ?_)
   all_goals try rfl
   refine AW [false,false,false,false,false,false,false,false,false,false,false,false,false,true,true,true,true,true,true,true,true] (Tr.sq [13,14,15,16,17,18,19,20] .fin) (by kernel_rfl) (Z ?_)
   replace h:=AB h; obtain⟨u85,u86,h⟩:=h
   refine Ak (Ae _ _ _ u86) (by (first|rfl|(simp only [go_sem]; rfl))) (by first|rfl|(simp only [go_sem])) (Z ?_)
   replace h:=AB h; obtain⟨u87,u88,h⟩:=h
   refine caG ⟨[],[(1001,1000002000)],[(1,1,0)],[(1501,144208)],[],true⟩ (ih2 _ _ _ _ _ u88) (Z ?_)
   refine AF ?_
   cases h
   refine Aj (.done _) [(1501,144208)] [(1,1)] ?_
   simp only [go_sem]
  ·intro a0 a1 a2 r h
   rw [Ec] at h
   refine agF Tryz.func83 mixed (h:=Z ?_)
   replace h:=AB h; obtain⟨t,u82,h⟩:=h
   refine AW [true,false,false,false,true,true,true,true,true,true,true,true,true,true] (.br 0 (.br 4 (Tr.sq [5] (.br 6 (.br 7 (Tr.sq [8,9,10,11,12,13] .fin) (.br 11 (Tr.sq [7,8,9,10,12,13] .fin) .stop)) (.br 11 (Tr.sq [6,7,8,9,10,12,13] .fin) .stop))) (.br 11 (Tr.sq [4,5,6,7,8,9,10,12,13] .fin) .stop)) (.br 4 (Tr.sq [5] (.br 0 (.br 6 (.br 7 (Tr.sq [8,9,10,11,12,13] .fin) (.br 11 (Tr.sq [7,8,9,10,12,13] .fin) .stop)) (.br 11 (Tr.sq [6,7,8,9,10,12,13] .fin) .stop)) (.br 6 (.br 0 (.br 7 (Tr.sq [8,9,10,11,12,13] .fin) (.br 11 (Tr.sq [7,8,9,10,12,13] .fin) .stop)) (.br 11 (Tr.sq [0,7,8,9,10,12,13] .fin) .stop)) (.br 11 (.br 0 (Tr.sq [6,7,8,9,10,12,13] .fin) (.br 6 (Tr.sq [0,7,8,9,10,12,13] .fin) .stop)) .stop)))) (.br 11 (.br 0 (Tr.sq [4,5,6,7,8,9,10,12,13] .fin) (.br 4 (Tr.sq [5] (.br 0 (Tr.sq [6,7,8,9,10,12,13] .fin) (.br 6 (Tr.sq [0,7,8,9,10,12,13] .fin) .stop))) .stop)) .stop))) (by kernel_rfl) ?_
   try simp only [go_sem]
   refine Au ?_ ?_
   ·try simp only [go_sem]
    refine Au ?_ ?_
    ·try simp only [go_sem]
     refine Au ?_ ?_
     ·try simp only [go_sem]
      refine Au (Z ?_) (Z ?_)
      ·refine caG ⟨[],[(1001,1001)],[(1,1,0)],[(1501,32112)],[],true⟩ (ih2 _ _ _ _ _ u82) (Z ?_)
       exact Aq (ih9 a0 a1 a2 t _ h) [(1000000000,32112)] [(1,1),(1000000500,1000),(1000000501,2011)]
      ·refine caG ⟨[],[(1001,1001)],[(1,1,0)],[(1501,32112)],[],true⟩ (ih2 _ _ _ _ _ u82) (Z ?_)
       exact Aq (ih9 a0 a1 a2 t _ h) [(1000000000,32112)] [(1,1),(1000000500,1000),(1000000501,2011)]
     ·try simp only [go_sem]
      refine caG ⟨[],[(1001,1001)],[(1,1,0)],[(1501,32112)],[],true⟩ (ih2 _ _ _ _ _ u82) (Z ?_)
      exact Aq (ih9 a0 a1 a2 t _ h) [(1000000000,32112)] [(1,1),(1000000500,1000),(1000000501,2011)]
    ·try simp only [go_sem]
     refine caG ⟨[],[(1001,1001)],[(1,1,0)],[(1501,32112)],[],true⟩ (ih2 _ _ _ _ _ u82) (Z ?_)
     exact Aq (ih9 a0 a1 a2 t _ h) [(1000000000,32112)] [(1,1),(1000000500,1000),(1000000501,2011)]
   ·try simp only [go_sem]
    refine Au ?_ ?_
    ·try simp only [go_sem]
     refine Au ?_ ?_
     ·try simp only [go_sem]
      refine Au ?_ ?_
      ·try simp only [go_sem]
       refine Au (Z ?_) (Z ?_)
       ·refine caG ⟨[],[(1001,1001)],[(1,1,0)],[(1501,32112)],[],true⟩ (ih2 _ _ _ _ _ u82) (Z ?_)
        exact Aq (ih9 a0 a1 a2 t _ h) [(1000000000,32112)] [(1,1),(1000000500,1000),(1000000501,2011)]
       ·refine caG ⟨[],[(1001,1001)],[(1,1,0)],[(1501,32112)],[],true⟩ (ih2 _ _ _ _ _ u82) (Z ?_)
        exact Aq (ih9 a0 a1 a2 t _ h) [(1000000000,32112)] [(1,1),(1000000500,1000),(1000000501,2011)]
      ·try simp only [go_sem]
       refine caG ⟨[],[(1001,1001)],[(1,1,0)],[(1501,32112)],[],true⟩ (ih2 _ _ _ _ _ u82) (Z ?_)
       exact Aq (ih9 a0 a1 a2 t _ h) [(1000000000,32112)] [(1,1),(1000000500,1000),(1000000501,2011)]
     ·try simp only [go_sem]
      refine Au ?_ ?_
      ·try simp only [go_sem]
       refine Au ?_ ?_
       ·try simp only [go_sem]
        refine Au (Z ?_) (Z ?_)
        ·refine caG ⟨[],[(1001,1001)],[(1,1,0)],[(1501,32112)],[],true⟩ (ih2 _ _ _ _ _ u82) (Z ?_)
         exact Aq (ih9 a0 a1 a2 t _ h) [(1000000000,32112)] [(1,1),(1000000500,1000),(1000000501,2011)]
        ·refine caG ⟨[],[(1001,1001)],[(1,1,0)],[(1501,32112)],[],true⟩ (ih2 _ _ _ _ _ u82) (Z ?_)
         exact Aq (ih9 a0 a1 a2 t _ h) [(1000000000,32112)] [(1,1),(1000000500,1000),(1000000501,2011)]
       ·try simp only [go_sem]
        refine caG ⟨[],[(1001,1001)],[(1,1,0)],[(1501,32112)],[],true⟩ (ih2 _ _ _ _ _ u82) (Z ?_)
        exact Aq (ih9 a0 a1 a2 t _ h) [(1000000000,32112)] [(1,1),(1000000500,1000),(1000000501,2011)]
      ·try simp only [go_sem]
       refine Au (Z ?_) (Z ?_)
       ·refine caG ⟨[],[(1001,1001)],[(1,1,0)],[(1501,32112)],[],true⟩ (ih2 _ _ _ _ _ u82) (Z ?_)
        exact Aq (ih9 a0 a1 a2 t _ h) [(1000000000,32112)] [(1,1),(1000000500,1000),(1000000501,2011)]
       ·refine caG ⟨[],[(1001,1001)],[(1,1,0)],[(1501,32112)],[],true⟩ (ih2 _ _ _ _ _ u82) (Z ?_)
        exact Aq (ih9 a0 a1 a2 t _ h) [(1000000000,32112)] [(1,1),(1000000500,1000),(1000000501,2011)]
    ·try simp only [go_sem]
     refine Au ?_ ?_
     ·try simp only [go_sem]
      refine caG ⟨[],[(1001,1001)],[(1,1,0)],[(1501,32112)],[],true⟩ (ih2 _ _ _ _ _ u82) (Z ?_)
      exact Aq (ih9 a0 a1 a2 t _ h) [(1000000000,32112)] [(1,1),(1000000500,1000),(1000000501,2011)]
     ·try simp only [go_sem]
      refine Au (Z ?_) (Z ?_)
      ·refine caG ⟨[],[(1001,1001)],[(1,1,0)],[(1501,32112)],[],true⟩ (ih2 _ _ _ _ _ u82) (Z ?_)
       exact Aq (ih9 a0 a1 a2 t _ h) [(1000000000,32112)] [(1,1),(1000000500,1000),(1000000501,2011)]
      ·refine caG ⟨[],[(1001,1001)],[(1,1,0)],[(1501,32112)],[],true⟩ (ih2 _ _ _ _ _ u82) (Z ?_)
       exact Aq (ih9 a0 a1 a2 t _ h) [(1000000000,32112)] [(1,1),(1000000500,1000),(1000000501,2011)]
  ·intro a0 a1 a2 t r h
   rw [D2] at h
   refine BI rfl rfl (Z ?_)
   refine AW [] .fin (by kernel_rfl) (Z ?_)
   replace h:=AB h; obtain⟨u89,u90,h⟩:=h
   refine AK u90 (Term.ds_len _) (Z ?_)
   replace h:=AB h; obtain⟨o,u91,h⟩:=h
   refine AH (DW _ _ _ u91) (Z ?_)
   refine AF ?_
   refine AW [] .fin (by kernel_rfl) (Z ?_)
   refine Am (fun u13=>?_) (fun u13=>?_)
   ·replace h:=ifT (c:=(!t.2.1)) u13 h
    try simp only [go_sem]
    exact Aq (ih10 a0 a1 a2 t o true _ h) [(1000001000,1000000000)] [(1,1),(1000001500,1000000500)]
   ·replace h:=ifF (c:=(!t.2.1)) u13 h
    try simp only [go_sem]
    replace h:=AB h; obtain⟨u92,u93,h⟩:=h
    refine AK u93 (Data.ds_len _) (Z ?_)
    replace h:=AB h; obtain⟨u94,u95,h⟩:=h
    refine Ak (Nq _ _ u95) (by (first|rfl|(simp only [go_sem]; rfl))) (by first|rfl|(simp only [go_sem])) (Z ?_)
    replace h:=AB h; obtain⟨u96,u97,h⟩:=h
    refine AH (Ed fuel _ _ _ u97) (Z ?_)
    exact Aq (ih10 a0 a1 a2 t o (!u96) _ h) [(1000001000,1000000000)] [(1,1),(1000001500,1000000500)]
  ·intro a0 a1 a2 t o s r h
   rw [BL] at h
   refine BI rfl rfl (Z ?_)
   refine Am (fun u15=>?_) (fun u15=>?_)
   ·replace h:=ifT (c:=s) u15 h
    try simp only [go_sem]
    cases h
    refine Aj (.done _) [(1501,1000001000)] [(1,1)] ?_
    simp only [go_sem]
   ·replace h:=ifF (c:=s) u15 h
    try simp only [go_sem]
    refine AF ?_
    replace h:=AB h; obtain⟨z,u98,h⟩:=h
    refine Bl (IP (by intro x; exact(Term.ds_len _)) _) (Z ?_)
    refine Ai (O3 u98) (Z ?_)
    exact loG (ih11 a0 a1 a2 t o z t.2.2.typ.kind t.2.2.typ.name a1.typ.kids t.2.2.kids 0 _ h) [(1000009000,1000001000)] [(1,1),(1000009500,1000001500)]
  ·intro a0 a1 a2 t o z u1 u2 u3 u4 u5 r h
   rw [Az] at h
   refine BI rfl rfl (Z ?_)
   refine AT (Z ?_)
   refine Am (fun u20=>?_) (fun u20=>?_)
   ·replace h:=ifT (c:=(decide (u5<(z.length:Int)))) u20 h
    try simp only [go_sem]
    refine AF ?_
    replace h:=AB h; obtain⟨u6,u99,h⟩:=h
    refine AK u99 (Term.ds_len _) (Z ?_)
    refine AF ?_
    refine AW [] .fin (by kernel_rfl) (Z ?_)
    refine AF ?_
    refine D9 (Iz rfl rfl (ih12 a0 a1 a2 u1 u2 u3 u4 u5 t o z u6 [] 0 _ h):) (.one ⟨_,.cell 9006 13 2000000000 (some 1) true _ (by simp only [go_sem]; rfl) (by rfl) (by simp only [go_sem]) (.done _),[(1000014000,1000009000),(1000014001,2000000000)],[(1,1),(1000014500,1000009500),(1000014501,9006)],?_⟩)
    simp only [go_sem]
    all_goals try rfl
   ·replace h:=ifF (c:=(decide (u5<(z.length:Int)))) u20 h
    try simp only [go_sem]
    refine AF ?_
    cases h
    refine Aj (.done _) [(1501,1000009000)] [(1,1)] ?_
    simp only [go_sem]
  ·intro a0 a1 a2 u1 u2 u3 u4 u5 t o z u6 u7 u8 r h
   rw [BD] at h
   refine BI rfl rfl (Z ?_)
   refine AT (Z ?_)
   refine Am (fun u23=>?_) (fun u23=>?_)
   ·replace h:=ifT (c:=(decide (u8<(u6.names.length:Int)))) u23 h
    try simp only [go_sem]
    refine AF ?_
    replace h:=AB h; obtain⟨u16,u17,h⟩:=h
    refine AK u17 rfl (Z ?_)
    refine AW [false,false,false,false,false,false,false,false,false,false,false,false,false,false,false,false,false,false,false,false,false,false,false,false,false,false,false,true,true,true,true] (.fz (Tr.sq [27,28,29,30] .fin)) (by kernel_rfl) (Z ?_)
    replace h:=AB h; obtain⟨w1,w2,h⟩:=h
    refine AK w2 (Data.ds_len _) (Z ?_)
    replace h:=AB h; obtain⟨w3,w4,h⟩:=h
    refine AK w4 (Constructor.ds_len _) (Z ?_)
    replace h:=AB h; obtain⟨w5,w6,h⟩:=h
    refine AK w6 (TType.ds_len _) (Z ?_)
    refine lc (.frzB 13025 [(109,[])] [(13026,0)] _ _ _ (by (first|rfl|(simp only [go_sem]; rfl))) (by decide) (by rfl) (by (first|rfl|(simp only [go_sem]; rfl))) (by (first|rfl|(simp only [go_sem]; rfl))) (.done _)) (Z ?_)
    all_goals try rfl
    replace h:=AB h; obtain⟨w7,w8,h⟩:=h
    have hq_:=Ca w8
    obtain⟨hv13027a,hv13027b⟩:=hq_
    refine G9 true (Z ?_)
    refine Bl (by refine⟨?_,?_⟩ <;> (try simp only [List.length_map,List.length_append,List.length_cons,List.length_nil] at*) <;> (try unfold maxLen) <;> omega) (Z ?_)
    refine Av (w7.map (pD Binder.ds)) (by rw [← hv13027b]; simp only [List.map_append,List.map_cons,List.map_nil,List.nil_append,List.append_nil,go_sem,pD,Binder.ds_eq]) (Z ?_)
    refine AF ?_
    exact lpG (ih12 a0 a1 a2 u1 u2 u3 u4 u5 t o z u6 w7 (IntKind.i64.wrap (u8+1)) _ h) [(1000014000,1000014000),(1000014001,208432)] [(1,1),(1000014500,1000014500),(1000014501,1000014501)]
   ·replace h:=ifF (c:=(decide (u8<(u6.names.length:Int)))) u23 h
    try simp only [go_sem]
    refine SV (.frzT 1000014001 [] [(1000014501,13)] _ _ _ (by (first|rfl|(simp only [go_sem]; rfl))) (by decide) (by (first|rfl|(simp only [go_sem]; rfl))) (by (first|rfl|(simp only [go_sem]; rfl))) (.done _)) (Z ?_)
    all_goals try rfl
    refine AW [false,false,false,false,false,false,false,false,false,false,false,false,false,true,true,true,true,true,true,true,true] (Tr.sq [13,14,15,16,17,18,19,20] .fin) (by kernel_rfl) (Z ?_)
    replace h:=AB h; obtain⟨w9,w10,h⟩:=h
    refine Ak (Ae _ _ _ w10) (by (first|rfl|(simp only [go_sem]; rfl))) (by first|rfl|(simp only [go_sem])) (Z ?_)
    replace h:=AB h; obtain⟨u9,u31,h⟩:=h
    refine caG ⟨[(3000240208,.nils,some 1)],[(1001,3000240208)],[(1,1000014501,0)],[(1501,240208)],[],true⟩ (ih2 _ _ _ _ _ u31) (Z ?_)
    refine SV (.frzT 240208 [] [(1000014501,12)] _ _ _ (by (first|rfl|(simp only [go_sem]; rfl))) (by decide) (by (first|rfl|(simp only [go_sem]; rfl))) (by (first|rfl|(simp only [go_sem]; rfl))) (.frzB 1000014501 [(13,[])] [] _ _ _ (by (first|rfl|(simp only [go_sem]; rfl))) (by decide) (by rfl) (by (first|rfl|(simp only [go_sem]; rfl))) (by (first|rfl|(simp only [go_sem]; rfl))) (.done _))) (Z ?_)
    all_goals try rfl
    replace h:=AB h; obtain⟨u10,w11,h⟩:=h
    have hq_:=Ca w11
    obtain⟨hv16007a,hv16007b⟩:=hq_
    refine G9 true (Z ?_)
    refine Bl (by refine⟨?_,?_⟩ <;> (try simp only [List.length_map,List.length_append,List.length_cons,List.length_nil] at*) <;> (try unfold maxLen) <;> omega) (Z ?_)
    refine Av (u10.map (pD Node.ds)) (by rw [← hv16007b]; simp only [List.map_append,List.map_cons,List.map_nil,List.nil_append,List.append_nil,go_sem,pD,Node.ds_eq,Ly]) (Z ?_)
    refine AF ?_
    refine AW [] .fin (by kernel_rfl) (Z ?_)
    refine Am (fun u26=>?_) (fun u26=>?_)
    ·replace h:=ifT (c:=(!u9.2.1)) u26 h
     try simp only [go_sem]
     exact Aq (ih13 a0 a1 a2 u1 u2 u3 u5 u7 t o z u6 u9 u10 true _ h) [(1000015000,256112)] [(1,1),(1000015500,1000014500)]
    ·replace h:=ifF (c:=(!u9.2.1)) u26 h
     try simp only [go_sem]
     refine Am (fun u34=>?_) (fun u34=>?_)
     ·replace h:=ifT (c:=(decide (0<u5))) u34 h
      try simp only [go_sem]
      replace h:=AB h; obtain⟨w12,w13,h⟩:=h
      refine AH (Ed fuel _ _ _ w13) (Z ?_)
      exact Aq (ih13 a0 a1 a2 u1 u2 u3 u5 u7 t o z u6 u9 u10 (!w12) _ h) [(1000015000,256112)] [(1,1),(1000015500,1000014500)]
     ·replace h:=ifF (c:=(decide (0<u5))) u34 h
      try simp only [go_sem]
      exact Aq (ih13 a0 a1 a2 u1 u2 u3 u5 u7 t o z u6 u9 u10 false _ h) [(1000015000,256112)] [(1,1),(1000015500,1000014500)]
  ·intro a0 a1 a2 u1 u2 u3 u5 u7 t o z u6 u9 u10 u11 r h
   rw [BP] at h
   refine BI rfl rfl (Z ?_)
   refine Am (fun u51=>?_) (fun u51=>?_)
   ·replace h:=ifT (c:=u11) u51 h
    try simp only [go_sem]
    cases h
    refine Aj (.done _) [(1501,1000015000)] [(1,1)] ?_
    simp only [go_sem]
   ·replace h:=ifF (c:=u11) u51 h
    try simp only [go_sem]
    refine AF ?_
    refine AF ?_
    exact lpG (ih11 a0 a1 a2 t o z u9.1.kind u9.1.name u9.1.kids u10 (IntKind.i64.wrap (u5+1)) _ h) [(1000009000,1000015000)] [(1,1),(1000009500,1000015500)]
  ·intro a0 a1 a2 i l u12 r h
   rw [D1] at h
   refine BI rfl rfl (Z ?_)
   refine AD h (fun h=>Z ?_) (fun h=>Z ?_)
   ·cases h
    refine Aj (.done _) [(1501,1000003000)] [(1,1)] ?_
    simp only [go_sem]
   ·refine AF ?_
    replace h:=AB h; obtain⟨w14,w15,h⟩:=h
    have hq_:=Ca w15
    obtain⟨hv8003a,hv8003b⟩:=hq_
    refine G9 true (Z ?_)
    refine Bl (by refine⟨?_,?_⟩ <;> (try simp only [List.length_map,List.length_append,List.length_cons,List.length_nil] at*) <;> (try unfold maxLen) <;> omega) (Z ?_)
    refine Av (w14.map TType.dz) (by rw [← hv8003b]; simp only [List.map_append,List.map_cons,List.map_nil,List.nil_append,List.append_nil,go_sem,TType.ds_eq,TType.dz_eq]) (Z ?_)
    refine AF ?_
    exact lpG (ih1 a0 a1 a2 u12.2.2.term.kind u12.2.2.term.num u12.2.2.term.name u12.2.2.term.typ.kind u12.2.2.term.typ.name u12.2.2.typ.kind u12.2.2.typ.name u12.2.2.level u12.2.2.kids w14 (IntKind.i64.wrap (l+1)) _ h) [(1000002000,1000003000),(1000002001,128048)] [(1,1),(1000002500,1000003500)]
def Lw (n:Nat):=(Pl n).2.2.2.1
theorem My (n:Nat):(∀a0 u w r,CC n a0 u w=some r→EM Tryz.prog Tryz.f24 [1,1,1,0,1,0] (.tup [.ro (r.1.map (pD Node.ds)),.int .i64 r.2]) [] [] ⟨[(1,.box 1000002500 0),(5,.own 1000002000),(16,.ro (a0.defs.map Def.ds)),(17,.int .i64 (a0.defs.length:Int)),(18,.int .i64 w)],[(1000002000,some ⟨List.map (pD Node.ds) u,some 1,0,true⟩)],[(1000002500,some [.ro (a0.datas.map Data.ds),.ro (a0.defs.map Def.ds)])]⟩)∧
    (∀a0 u w y q r,D3 n a0 u w y q=some r→EM Tryz.prog Tryz.f24 [1,1,1,0,1,0,0,1,1,0,0,1,1,0,1] (.tup [.ro (r.1.map (pD Node.ds)),.int .i64 r.2]) [] [] ⟨[(1,.box 1000003500 0),(5,.own 1000003000),(8,.rop [.int .i64 y.1.term.kind,.int .i64 y.1.term.num,.str y.1.term.name,.int .i64 y.1.term.typ.kind,.str y.1.term.typ.name,.ro (y.1.term.typ.kids.map TType.ds),.ro (y.1.term.names.map strD),.ro (y.1.term.kids.map Term.ds),.int .i64 y.1.typ.kind,.str y.1.typ.name,.ro (y.1.typ.kids.map TType.ds),.int .i64 y.1.level,.ro (y.1.kids.map (pD Node.ds)),.ro (y.1.binds.map (pD Binder.ds)),(nop Binder.avs y.1.binder)] 0),(16,.ro (a0.defs.map Def.ds)),(17,.int .i64 (a0.defs.length:Int)),(18,.int .i64 w),(41,.bool q)],[(1000003000,some ⟨List.map (pD Node.ds) u,some 1,0,true⟩)],[(1000003500,some [.ro (a0.datas.map Data.ds),.ro (a0.defs.map Def.ds)])]⟩):=by
 induction n with
 |zero=>exact⟨(fun _ _ _ _ h=>by rw [CC] at h; cases h),(fun _ _ _ _ _ _ h=>by rw [D3] at h; cases h)⟩
 | succ n ih=>
  obtain⟨ih0,ih1⟩:=ih
  refine⟨?_,?_⟩
  ·intro a0 u w r h
   rw [CC] at h
   refine BI rfl rfl (Z ?_)
   refine AT (Z ?_)
   refine AD h (fun h=>Z ?_) (fun h=>Z ?_)
   ·refine AF ?_
    replace h:=AB h; obtain⟨g,j,h⟩:=h
    refine AK j (Def.ds_len _) (Z ?_)
    refine AF ?_
    replace h:=AB h; obtain⟨y,k,h⟩:=h
    refine Ak (Lw fuel _ _ _ _ _ k) (by (first|rfl|(simp only [go_sem]; rfl))) (by first|rfl|(simp only [go_sem])) (Z ?_)
    refine AF ?_
    refine AW [] .fin (by kernel_rfl) (Z ?_)
    refine AD h (fun h=>Z ?_) (fun h=>Z ?_)
    ·exact Aq (ih1 a0 u w y true _ h) [(1000003000,1000002000)] [(1000003500,1000002500)]
    ·replace h:=AB h; obtain⟨b,d,h⟩:=h
     refine AH (Ed fuel _ _ _ d) (Z ?_)
     exact Aq (ih1 a0 u w y (!b) _ h) [(1000003000,1000002000)] [(1000003500,1000002500)]
   ·refine AF ?_
    cases h
    refine Aj (.frzT 1000002000 [(0,[0])] [] _ _ _ (by (first|rfl|(simp only [go_sem]; rfl))) (by decide) (by (first|rfl|(simp only [go_sem]; rfl))) (by (first|rfl|(simp only [go_sem]; rfl))) (.done _)) [] [] ?_
    simp only [go_sem]
    all_goals try rfl
  ·intro a0 u w y q r h
   rw [D3] at h
   refine BI rfl rfl (Z ?_)
   refine AD h (fun h=>Z ?_) (fun h=>Z ?_)
   ·cases h
    refine Aj (.frzN [(0,[0])] [] _ _ (by (first|rfl|(simp only [go_sem]; rfl))) (by (first|rfl|(simp only [go_sem]; rfl))) (.done _)) [] [] ?_
    simp only [go_sem]
    all_goals try rfl
   ·refine AF ?_
    replace h:=AB h; obtain⟨c,e,h⟩:=h
    have hq_:=Ca e
    obtain⟨hv12003a,hv12003b⟩:=hq_
    refine G9 true (Z ?_)
    refine Bl (by refine⟨?_,?_⟩ <;> (try simp only [List.length_map,List.length_append,List.length_cons,List.length_nil] at*) <;> (try unfold maxLen) <;> omega) (Z ?_)
    refine Av (c.map (pD Node.ds)) (by rw [← hv12003b]; simp only [List.map_append,List.map_cons,List.map_nil,List.nil_append,List.append_nil,go_sem,pD,Node.ds_eq,Ly]) (Z ?_)
    refine AF ?_
    exact lpG (ih0 a0 c (IntKind.i64.wrap (w+1)) _ h) [(1000002000,192048)] [(1000002500,1000003500)]
def NY (n:Nat):=(My n).1
theorem QY (a0 r) (h:Gg a0=some r):AG Tryz.prog 24 [.agg [.ro (a0.datas.map Data.ds),.ro (a0.defs.map Def.ds)]] [] [] (.tup [.ro (r.1.map (pD Node.ds)),.int .i64 r.2]) [] [] :=by
 unfold Gg at h
 refine agF Tryz.func24 mixed (h:=Z ?_)
 replace h:=AB h; obtain⟨u,w,h⟩:=h
 refine AH (Lu _ _ w) (Z ?_)
 refine AF ?_
 refine AD h (fun h=>Z ?_) (fun h=>Z ?_)
 ·cases h
  refine Aj (.frzN [(0,[0])] [] _ _ (by (first|rfl|(simp only [go_sem]; rfl))) (by (first|rfl|(simp only [go_sem]; rfl))) (.done _)) [] [] ?_
  simp only [go_sem]
  all_goals try rfl
 ·refine AF ?_
  refine D9 (Iz rfl rfl (NY fuel a0 [] 0 _ h):) (.one ⟨_,.slot 5 2000000000 (some 1) true (by simp only [go_sem]) (by simp only [go_sem]) (.done _),[(1000002000,2000000000)],[(1000002500,1000)],?_⟩)
  simp only [go_sem]
  all_goals try rfl
theorem Pm (n:Nat):(∀a0 a1 r,D7 n a0 a1=some r→AC Tryz.prog 15 [.agg (TType.avs a0),.agg (TType.avs a1)] (.bool r))∧
    (∀a0 a1 r,GV n a0 a1=some r→AC Tryz.prog 37 [.ro (a0.map TType.ds),.ro (a1.map TType.ds)] (.bool r))∧
    (∀a0 a1 u r,FQ n a0 a1 u=some r→Af Tryz.prog Tryz.f37 [1,1,0,1,0] (.bool r) ⟨[(0,.ro (a0.map TType.ds)),(1,.ro (a1.map TType.ds)),(5,.int .i64 u)],[],[]⟩):=by
 induction n with
 |zero=>exact⟨(fun _ _ _ h=>by rw [D7] at h; cases h),(fun _ _ _ h=>by rw [GV] at h; cases h),(fun _ _ _ _ h=>by rw [FQ] at h; cases h)⟩
 | succ n ih=>
  obtain⟨ih0,ih1,ih2⟩:=ih
  refine⟨?_,?_,?_⟩
  ·intro a0 a1 r h
   rw [D7] at h
   refine acF Tryz.func15 mixed (h:=Z ?_)
   refine Am (fun w=>?_) (fun w=>?_)
   ·replace h:=ifT (c:=(!decide (a0.kind=a1.kind))) w h
    try simp only [go_sem]
    cases h
    simp only [go_sem]
   ·replace h:=ifF (c:=(!decide (a0.kind=a1.kind))) w h
    try simp only [go_sem]
    refine AF ?_
    refine Am (fun y=>?_) (fun y=>?_)
    ·replace h:=ifT (c:=(!sameStr a0.name a1.name)) y h
     try simp only [go_sem]
     cases h
     simp only [go_sem]
    ·replace h:=ifF (c:=(!sameStr a0.name a1.name)) y h
     try simp only [go_sem]
     refine AF ?_
     replace h:=AB h; obtain⟨q,g,h⟩:=h
     refine AH (ih1 _ _ _ g) (Z ?_)
     refine AF ?_
     refine Am (fun j=>?_) (fun j=>?_)
     ·replace h:=ifT (c:=(!q)) j h
      try simp only [go_sem]
      cases h
      simp only [go_sem]
     ·replace h:=ifF (c:=(!q)) j h
      try simp only [go_sem]
      refine AF ?_
      cases h
      simp only [go_sem]
  ·intro a0 a1 r h
   rw [GV] at h
   refine acF Tryz.func37 mixed (h:=Z ?_)
   refine Am (fun w=>?_) (fun w=>?_)
   ·replace h:=ifT (c:=(!decide ((a0.length:Int)=(a1.length:Int)))) w h
    try simp only [go_sem]
    cases h
    simp only [go_sem]
   ·replace h:=ifF (c:=(!decide ((a0.length:Int)=(a1.length:Int)))) w h
    try simp only [go_sem]
    refine AF ?_
    exact loF (ih2 a0 a1 0 _ h) [] []
  ·intro a0 a1 u r h
   rw [FQ] at h
   refine AL rfl rfl (Z ?_)
   refine AT (Z ?_)
   refine Am (fun y=>?_) (fun y=>?_)
   ·replace h:=ifT (c:=(decide (u<(a0.length:Int)))) y h
    try simp only [go_sem]
    refine AF ?_
    refine AW [] .fin (by kernel_rfl) (Z ?_)
    replace h:=AB h; obtain⟨k,b,h⟩:=h
    refine AK b (TType.ds_len _) (Z ?_)
    replace h:=AB h; obtain⟨d,e,h⟩:=h
    refine AK e (TType.ds_len _) (Z ?_)
    replace h:=AB h; obtain⟨i,l,h⟩:=h
    refine AH (ih0 _ _ _ l) (Z ?_)
    refine AF ?_
    refine Am (fun j=>?_) (fun j=>?_)
    ·replace h:=ifT (c:=(!i)) j h
     try simp only [go_sem]
     cases h
     simp only [go_sem]
    ·replace h:=ifF (c:=(!i)) j h
     try simp only [go_sem]
     refine AF ?_
     exact lpF (ih2 a0 a1 (IntKind.i64.wrap (u+1)) _ h) [] []
   ·replace h:=ifF (c:=(decide (u<(a0.length:Int)))) y h
    try simp only [go_sem]
    refine AF ?_
    cases h
    simp only [go_sem]
def Ig (n:Nat):=(Pm n).1
def Ve (n:Nat):=(Pm n).2.1
theorem Oa (a0 a1 r) (h:EH a0 a1=some r):AC Tryz.prog 135 [.agg (Constructor.avs a0),.agg (Constructor.avs a1)] (.bool r):=by
 unfold EH at h
 refine acF Tryz.func135 mixed (h:=Z ?_)
 refine AD h (fun h=>Z ?_) (fun h=>Z ?_)
 ·cases h
  simp only [go_sem]
 ·refine AF ?_
  replace h:=AB h; obtain⟨u,w,h⟩:=h
  refine AH (Ve fuel _ _ _ w) (Z ?_)
  refine AF ?_
  refine AD h (fun h=>Z ?_) (fun h=>Z ?_)
  ·cases h
   simp only [go_sem]
  ·refine AF ?_
   cases h
   simp only [go_sem]
theorem Lo (n:Nat):(∀a0 a1 u r,CG n a0 a1 u=some r→Af Tryz.prog Tryz.f96 [1,1,0,1,0] (.bool r) ⟨[(0,.ro (a0.map Constructor.ds)),(1,.ro (a1.map Constructor.ds)),(5,.int .i64 u)],[],[]⟩):=by
 induction n with
 |zero=>exact((fun _ _ _ _ h=>by rw [CG] at h; cases h))
 | succ n ih=>
  have ih0:=ih
  ·intro a0 a1 u r h
   rw [CG] at h
   refine AL rfl rfl (Z ?_)
   refine AT (Z ?_)
   refine AD h (fun h=>Z ?_) (fun h=>Z ?_)
   ·refine AF ?_
    refine AW [] .fin (by kernel_rfl) (Z ?_)
    replace h:=AB h; obtain⟨w,y,h⟩:=h
    refine AK y (Constructor.ds_len _) (Z ?_)
    replace h:=AB h; obtain⟨q,g,h⟩:=h
    refine AK g (Constructor.ds_len _) (Z ?_)
    replace h:=AB h; obtain⟨j,k,h⟩:=h
    refine AH (Oa _ _ _ k) (Z ?_)
    refine AF ?_
    refine AD h (fun h=>Z ?_) (fun h=>Z ?_)
    ·cases h
     simp only [go_sem]
    ·refine AF ?_
     exact lpF (ih0 a0 a1 (IntKind.i64.wrap (u+1)) _ h) [] []
   ·refine AF ?_
    cases h
    simp only [go_sem]
theorem NZ (a0 a1 r) (h:Ez a0 a1=some r):AC Tryz.prog 96 [.ro (a0.map Constructor.ds),.ro (a1.map Constructor.ds)] (.bool r):=by
 unfold Ez at h
 refine acF Tryz.func96 mixed (h:=Z ?_)
 refine AD h (fun h=>Z ?_) (fun h=>Z ?_)
 ·cases h
  simp only [go_sem]
 ·refine AF ?_
  exact loF (Lo fuel a0 a1 0 _ h) [] []
theorem XP (a0 a1 r) (h:Kv a0 a1=some r):AC Tryz.prog 48 [.agg (Data.avs a0),.agg (Data.avs a1)] (.bool r):=by
 unfold Kv at h
 refine acF Tryz.func48 mixed (h:=Z ?_)
 refine AD h (fun h=>Z ?_) (fun h=>Z ?_)
 ·cases h
  simp only [go_sem]
 ·refine AF ?_
  replace h:=AB h; obtain⟨u,w,h⟩:=h
  refine AH (NZ _ _ _ w) (Z ?_)
  refine AF ?_
  refine AD h (fun h=>Z ?_) (fun h=>Z ?_)
  ·cases h
   simp only [go_sem]
  ·refine AF ?_
   cases h
   simp only [go_sem]
theorem RR (n:Nat):(∀a0 a1 u r,FR n a0 a1 u=some r→Af Tryz.prog Tryz.f25 [1,1,0,1,0] (.bool r) ⟨[(0,.ro (a0.map Data.ds)),(1,.ro (a1.map Data.ds)),(5,.int .i64 u)],[],[]⟩):=by
 induction n with
 |zero=>exact((fun _ _ _ _ h=>by rw [FR] at h; cases h))
 | succ n ih=>
  have ih0:=ih
  ·intro a0 a1 u r h
   rw [FR] at h
   refine AL rfl rfl (Z ?_)
   refine AT (Z ?_)
   refine AD h (fun h=>Z ?_) (fun h=>Z ?_)
   ·refine AF ?_
    refine AW [] .fin (by kernel_rfl) (Z ?_)
    replace h:=AB h; obtain⟨w,y,h⟩:=h
    refine AK y (Data.ds_len _) (Z ?_)
    replace h:=AB h; obtain⟨q,g,h⟩:=h
    refine AK g (Data.ds_len _) (Z ?_)
    replace h:=AB h; obtain⟨j,k,h⟩:=h
    refine AH (XP _ _ _ k) (Z ?_)
    refine AF ?_
    refine AD h (fun h=>Z ?_) (fun h=>Z ?_)
    ·cases h
     simp only [go_sem]
    ·refine AF ?_
     exact lpF (ih0 a0 a1 (IntKind.i64.wrap (u+1)) _ h) [] []
   ·refine AF ?_
    cases h
    simp only [go_sem]
theorem Vf (a0 a1 r) (h:Kw a0 a1=some r):AC Tryz.prog 25 [.ro (a0.map Data.ds),.ro (a1.map Data.ds)] (.bool r):=by
 unfold Kw at h
 refine acF Tryz.func25 mixed (h:=Z ?_)
 refine AD h (fun h=>Z ?_) (fun h=>Z ?_)
 ·cases h
  simp only [go_sem]
 ·refine AF ?_
  exact loF (RR fuel a0 a1 0 _ h) [] []
theorem Pn (n:Nat):(∀a0 a1 u r,DV n a0 a1 u=some r→Af Tryz.prog Tryz.f136 [1,1,0,1,0] (.bool r) ⟨[(0,.ro (a0.map strD)),(1,.ro (a1.map strD)),(5,.int .i64 u)],[],[]⟩):=by
 induction n with
 |zero=>exact((fun _ _ _ _ h=>by rw [DV] at h; cases h))
 | succ n ih=>
  have ih0:=ih
  ·intro a0 a1 u r h
   rw [DV] at h
   refine AL rfl rfl (Z ?_)
   refine AT (Z ?_)
   refine AD h (fun h=>Z ?_) (fun h=>Z ?_)
   ·refine AF ?_
    refine AW [] .fin (by kernel_rfl) (Z ?_)
    replace h:=AB h; obtain⟨w,y,h⟩:=h
    refine AK y rfl (Z ?_)
    replace h:=AB h; obtain⟨q,g,h⟩:=h
    refine AK g rfl (Z ?_)
    refine AF ?_
    refine AD h (fun h=>Z ?_) (fun h=>Z ?_)
    ·cases h
     simp only [go_sem]
    ·refine AF ?_
     exact lpF (ih0 a0 a1 (IntKind.i64.wrap (u+1)) _ h) [] []
   ·refine AF ?_
    cases h
    simp only [go_sem]
theorem TQ (a0 a1 r) (h:Ic a0 a1=some r):AC Tryz.prog 136 [.ro (a0.map strD),.ro (a1.map strD)] (.bool r):=by
 unfold Ic at h
 refine acF Tryz.func136 mixed (h:=Z ?_)
 refine AD h (fun h=>Z ?_) (fun h=>Z ?_)
 ·cases h
  simp only [go_sem]
 ·refine AF ?_
  exact loF (Pn fuel a0 a1 0 _ h) [] []
theorem To (n:Nat):(∀a0 a1 r,JJ n a0 a1=some r→AC Tryz.prog 137 [.ro (a0.map Term.ds),.ro (a1.map Term.ds)] (.bool r))∧
    (∀a0 a1 u r,FS n a0 a1 u=some r→Af Tryz.prog Tryz.f137 [1,1,0,1,0] (.bool r) ⟨[(0,.ro (a0.map Term.ds)),(1,.ro (a1.map Term.ds)),(5,.int .i64 u)],[],[]⟩)∧
    (∀a0 a1 r,Gk n a0 a1=some r→AC Tryz.prog 97 [.agg (Term.avs a0),.agg (Term.avs a1)] (.bool r)):=by
 induction n with
 |zero=>exact⟨(fun _ _ _ h=>by rw [JJ] at h; cases h),(fun _ _ _ _ h=>by rw [FS] at h; cases h),(fun _ _ _ h=>by rw [Gk] at h; cases h)⟩
 | succ n ih=>
  obtain⟨ih0,ih1,ih2⟩:=ih
  refine⟨?_,?_,?_⟩
  ·intro a0 a1 r h
   rw [JJ] at h
   refine acF Tryz.func137 mixed (h:=Z ?_)
   refine Am (fun w=>?_) (fun w=>?_)
   ·replace h:=ifT (c:=(!decide ((a0.length:Int)=(a1.length:Int)))) w h
    try simp only [go_sem]
    cases h
    simp only [go_sem]
   ·replace h:=ifF (c:=(!decide ((a0.length:Int)=(a1.length:Int)))) w h
    try simp only [go_sem]
    refine AF ?_
    exact loF (ih1 a0 a1 0 _ h) [] []
  ·intro a0 a1 u r h
   rw [FS] at h
   refine AL rfl rfl (Z ?_)
   refine AT (Z ?_)
   refine Am (fun y=>?_) (fun y=>?_)
   ·replace h:=ifT (c:=(decide (u<(a0.length:Int)))) y h
    try simp only [go_sem]
    refine AF ?_
    refine AW [] .fin (by kernel_rfl) (Z ?_)
    replace h:=AB h; obtain⟨q,g,h⟩:=h
    refine AK g (Term.ds_len _) (Z ?_)
    replace h:=AB h; obtain⟨j,k,h⟩:=h
    refine AK k (Term.ds_len _) (Z ?_)
    replace h:=AB h; obtain⟨b,d,h⟩:=h
    refine AH (ih2 _ _ _ d) (Z ?_)
    refine AF ?_
    refine Am (fun e=>?_) (fun e=>?_)
    ·replace h:=ifT (c:=(!b)) e h
     try simp only [go_sem]
     cases h
     simp only [go_sem]
    ·replace h:=ifF (c:=(!b)) e h
     try simp only [go_sem]
     refine AF ?_
     exact lpF (ih1 a0 a1 (IntKind.i64.wrap (u+1)) _ h) [] []
   ·replace h:=ifF (c:=(decide (u<(a0.length:Int)))) y h
    try simp only [go_sem]
    refine AF ?_
    cases h
    simp only [go_sem]
  ·intro a0 a1 r h
   rw [Gk] at h
   refine acF Tryz.func97 mixed (h:=Z ?_)
   refine Am (fun w=>?_) (fun w=>?_)
   ·replace h:=ifT (c:=(!decide (a0.kind=a1.kind))) w h
    try simp only [go_sem]
    cases h
    simp only [go_sem]
   ·replace h:=ifF (c:=(!decide (a0.kind=a1.kind))) w h
    try simp only [go_sem]
    refine AF ?_
    refine Am (fun y=>?_) (fun y=>?_)
    ·replace h:=ifT (c:=(!decide (a0.num=a1.num))) y h
     try simp only [go_sem]
     cases h
     simp only [go_sem]
    ·replace h:=ifF (c:=(!decide (a0.num=a1.num))) y h
     try simp only [go_sem]
     refine AF ?_
     refine Am (fun e=>?_) (fun e=>?_)
     ·replace h:=ifT (c:=(!sameStr a0.name a1.name)) e h
      try simp only [go_sem]
      cases h
      simp only [go_sem]
     ·replace h:=ifF (c:=(!sameStr a0.name a1.name)) e h
      try simp only [go_sem]
      refine AF ?_
      replace h:=AB h; obtain⟨i,l,h⟩:=h
      refine AH (Ig fuel _ _ _ l) (Z ?_)
      refine AF ?_
      refine AD h (fun h=>Z ?_) (fun h=>Z ?_)
      ·cases h
       simp only [go_sem]
      ·refine AF ?_
       replace h:=AB h; obtain⟨t,s,h⟩:=h
       refine AH (TQ _ _ _ s) (Z ?_)
       refine AF ?_
       refine AD h (fun h=>Z ?_) (fun h=>Z ?_)
       ·cases h
        simp only [go_sem]
       ·refine AF ?_
        replace h:=AB h; obtain⟨o,z,h⟩:=h
        refine AH (ih0 _ _ _ z) (Z ?_)
        refine AF ?_
        refine AD h (fun h=>Z ?_) (fun h=>Z ?_)
        ·cases h
         simp only [go_sem]
        ·refine AF ?_
         cases h
         simp only [go_sem]
def XQ (n:Nat):=(To n).2.2
theorem Yd (a0 a1 r) (h:NF a0 a1=some r):AC Tryz.prog 49 [.agg (Def.avs a0),.agg (Def.avs a1)] (.bool r):=by
 unfold NF at h
 refine acF Tryz.func49 mixed (h:=Z ?_)
 refine AD h (fun h=>Z ?_) (fun h=>Z ?_)
 ·cases h
  simp only [go_sem]
 ·refine AF ?_
  replace h:=AB h; obtain⟨u,w,h⟩:=h
  refine AH (Ig fuel _ _ _ w) (Z ?_)
  refine AF ?_
  refine AD h (fun h=>Z ?_) (fun h=>Z ?_)
  ·cases h
   simp only [go_sem]
  ·refine AF ?_
   replace h:=AB h; obtain⟨y,q,h⟩:=h
   refine AH (XQ fuel _ _ _ q) (Z ?_)
   refine AF ?_
   refine AD h (fun h=>Z ?_) (fun h=>Z ?_)
   ·cases h
    simp only [go_sem]
   ·refine AF ?_
    cases h
    simp only [go_sem]
theorem TR (n:Nat):(∀a0 a1 u r,GA n a0 a1 u=some r→Af Tryz.prog Tryz.f26 [1,1,0,1,0] (.bool r) ⟨[(0,.ro (a0.map Def.ds)),(1,.ro (a1.map Def.ds)),(5,.int .i64 u)],[],[]⟩):=by
 induction n with
 |zero=>exact((fun _ _ _ _ h=>by rw [GA] at h; cases h))
 | succ n ih=>
  have ih0:=ih
  ·intro a0 a1 u r h
   rw [GA] at h
   refine AL rfl rfl (Z ?_)
   refine AT (Z ?_)
   refine AD h (fun h=>Z ?_) (fun h=>Z ?_)
   ·refine AF ?_
    refine AW [] .fin (by kernel_rfl) (Z ?_)
    replace h:=AB h; obtain⟨w,y,h⟩:=h
    refine AK y (Def.ds_len _) (Z ?_)
    replace h:=AB h; obtain⟨q,g,h⟩:=h
    refine AK g (Def.ds_len _) (Z ?_)
    replace h:=AB h; obtain⟨j,k,h⟩:=h
    refine AH (Yd _ _ _ k) (Z ?_)
    refine AF ?_
    refine AD h (fun h=>Z ?_) (fun h=>Z ?_)
    ·cases h
     simp only [go_sem]
    ·refine AF ?_
     exact lpF (ih0 a0 a1 (IntKind.i64.wrap (u+1)) _ h) [] []
   ·refine AF ?_
    cases h
    simp only [go_sem]
theorem XR (a0 a1 r) (h:Ma a0 a1=some r):AC Tryz.prog 26 [.ro (a0.map Def.ds),.ro (a1.map Def.ds)] (.bool r):=by
 unfold Ma at h
 refine acF Tryz.func26 mixed (h:=Z ?_)
 refine AD h (fun h=>Z ?_) (fun h=>Z ?_)
 ·cases h
  simp only [go_sem]
 ·refine AF ?_
  exact loF (TR fuel a0 a1 0 _ h) [] []
theorem Mu (a0 a1 r) (h:FA a0 a1=some r):AC Tryz.prog 10 [.agg (TProgram.avs a0),.agg (TProgram.avs a1)] (.bool r):=by
 unfold FA at h
 refine acF Tryz.func10 mixed (h:=Z ?_)
 replace h:=AB h; obtain⟨u,w,h⟩:=h
 refine AH (Vf _ _ _ w) (Z ?_)
 refine AF ?_
 refine AD h (fun h=>Z ?_) (fun h=>Z ?_)
 ·cases h
  simp only [go_sem]
 ·refine AF ?_
  replace h:=AB h; obtain⟨y,q,h⟩:=h
  refine AH (XR _ _ _ q) (Z ?_)
  refine AF ?_
  refine AD h (fun h=>Z ?_) (fun h=>Z ?_)
  ·cases h
   simp only [go_sem]
  ·refine AF ?_
   cases h
   simp only [go_sem]
end Go.Proofs.YtnfgeocnolheoaaGreat.Ab
