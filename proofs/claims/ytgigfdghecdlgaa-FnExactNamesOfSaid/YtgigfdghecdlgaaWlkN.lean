/-
 The functions do what their models say. Printed by wip/ab/gen.py.
-/
import Derived.Test.YtgigfdghecdlgaaModN
import Derived.Test.YtgigfdghecdlgaaTi2
import Derived.Test.YtgigfdghecdlgaaWlkS
namespace Go.Proofs.Ytgigfdghecdlgaa.Ab
set_option linter.unusedVariables false
set_option linter.unusedSimpArgs false
set_option maxRecDepth 20000
set_option maxHeartbeats 4000000
open Go.RowKit
theorem LQ (a0 a1 r) (h:E6 a0 a1=some r):AC Try.prog 33 [.ro (List.map AM a0),.int .i64 a1] (.int .i64 r):=by
 unfold E6 at h
 refine acF Try.func33 mixed (h:=Z ?_)
 refine AD h (fun h=>Z ?_) (fun h=>Z ?_)
 ·cases h
  simp only [go_sem]
 ·refine AF ?_
  cases h
  simp only [go_sem]
theorem LR (n:Nat):(∀a0 a1 r,Ed n a0 a1=some r→AC Try.prog 34 [.ro (List.map Core.ds a0),.int .i64 a1] (.int .i64 r))∧
    (∀a0 u w r,B8 n a0 u w=some r→BY Try.prog Try.f34 [1,1,1,0,1,0] (.int .i64 r) ⟨[(0,.ro (List.map Core.ds a0)),(1,.int .i64 u),(5,.int .i64 w)],[],[]⟩)∧
    (∀a0 a1 r,Dl n a0 a1=some r→AC Try.prog 16 [.agg (Core.avs a0),.int .i64 a1] (.int .i64 r)):=by
 induction n with
 |zero=>exact⟨(fun _ _ _ h=>by rw [Ed] at h; cases h),(fun _ _ _ _ h=>by rw [B8] at h; cases h),(fun _ _ _ h=>by rw [Dl] at h; cases h)⟩
 | succ n ih=>
  obtain⟨ih0,ih1,ih2⟩:=ih
  refine⟨?_,?_,?_⟩
  ·intro a0 a1 r h
   rw [Ed] at h
   refine acF Try.func34 mixed (h:=Z ?_)
   refine FT (fun y=>?_) (fun y=>?_)
   ·replace h:=ifT (c:=(decide ((IntKind.i64.wrap (a1 - ((List.length a0:Nat):Int)))<0))) y h
    try simp only [go_sem]
    cases h
    simp only [go_sem]
   ·replace h:=ifF (c:=(decide ((IntKind.i64.wrap (a1 - ((List.length a0:Nat):Int)))<0))) y h
    try simp only [go_sem]
    refine AF ?_
    exact loF (ih1 a0 (IntKind.i64.wrap (a1 - ((List.length a0:Nat):Int))) 0 _ h) [] []
  ·intro a0 u w r h
   rw [B8] at h
   refine AR rfl rfl (Z ?_)
   refine A1 (Z ?_)
   refine FT (fun q=>?_) (fun q=>?_)
   ·replace h:=ifT (c:=(decide (w<((List.length a0:Nat):Int)))) q h
    try simp only [go_sem]
    refine AF ?_
    replace h:=AH h; obtain⟨g,j,h⟩:=h
    refine AY j (Core.ds_len _) (Z ?_)
    replace h:=AH h; obtain⟨k,b,h⟩:=h
    refine AK (ih2 _ _ _ b) (Z ?_)
    refine AF ?_
    refine AD h (fun h=>Z ?_) (fun h=>Z ?_)
    ·cases h
     simp only [go_sem]
    ·refine AF ?_
     exact lpF (ih1 a0 k (IntKind.i64.wrap (w+1)) _ h) [] []
   ·replace h:=ifF (c:=(decide (w<((List.length a0:Nat):Int)))) q h
    try simp only [go_sem]
    refine AF ?_
    cases h
    simp only [go_sem]
  ·intro a0 a1 r h
   rw [Dl] at h
   refine acF Try.func16 mixed (h:=Z ?_)
   replace h:=AH h; obtain⟨d,e,h⟩:=h
   refine AK (LQ _ _ _ e) (Z ?_)
   refine AF ?_
   refine FT (fun y=>?_) (fun y=>?_)
   ·replace h:=ifT (c:=(decide (d<0))) y h
    try simp only [go_sem]
    cases h
    simp only [go_sem]
   ·replace h:=ifF (c:=(decide (d<0))) y h
    try simp only [go_sem]
    refine AF ?_
    replace h:=AH h; obtain⟨i,l,h⟩:=h
    refine AK (ih0 _ _ _ l) (Z ?_)
    refine AF ?_
    refine FT (fun q=>?_) (fun q=>?_)
    ·replace h:=ifT (c:=(decide (i<0))) q h
     try simp only [go_sem]
     cases h
     simp only [go_sem]
    ·replace h:=ifF (c:=(decide (i<0))) q h
     try simp only [go_sem]
     refine AF ?_
     cases h
     simp only [go_sem]
theorem OT (n:Nat):(∀a0 a1 r,Dl n a0 a1=some r→AC Try.prog 16 [.agg (Core.avs a0),.int .i64 a1] (.int .i64 r)):=(LR n).2.2
theorem Ib (n:Nat):(∀a0 u w r,BS n a0 u w=some r→BY Try.prog Try.f17 [1,1,1,0,1,0] (.int .i64 r) ⟨[(0,.ro (List.map A2 a0)),(1,.int .i64 u),(5,.int .i64 w)],[],[]⟩):=by
 induction n with
 |zero=>exact((fun _ _ _ _ h=>by rw [BS] at h; cases h))
 | succ n ih=>
  have ih0:=ih
  ·intro a0 u w r h
   rw [BS] at h
   refine AR rfl rfl (Z ?_)
   refine A1 (Z ?_)
   refine AD h (fun h=>Z ?_) (fun h=>Z ?_)
   ·refine AF ?_
    replace h:=AH h; obtain⟨y,q,h⟩:=h
    refine AY q rfl (Z ?_)
    refine AD h (fun h=>Z ?_) (fun h=>Z ?_)
    ·cases h
     simp only [go_sem]
    ·refine AF ?_
     exact lpF (ih0 a0 (IntKind.i64.wrap (u - ((ByteArray.size y:Nat):Int))) (IntKind.i64.wrap (w+1)) _ h) [] []
   ·refine AF ?_
    cases h
    simp only [go_sem]
theorem K0 (a0 a1 r) (h:EK a0 a1=some r):AC Try.prog 17 [.ro (List.map A2 a0),.int .i64 a1] (.int .i64 r):=by
 unfold EK at h
 refine acF Try.func17 mixed (h:=Z ?_)
 refine AD h (fun h=>Z ?_) (fun h=>Z ?_)
 ·cases h
  simp only [go_sem]
 ·refine AF ?_
  exact loF (Ib fuel a0 (IntKind.i64.wrap (a1 - ((List.length a0:Nat):Int))) 0 _ h) [] []
theorem JZ (a0 a1 r) (h:Dm a0 a1=some r):AC Try.prog 5 [.agg (Labelled.avs a0),.int .i64 a1] (.int .i64 r):=by
 unfold Dm at h
 refine acF Try.func5 mixed (h:=Z ?_)
 replace h:=AH h; obtain⟨u,w,h⟩:=h
 refine AK (OT fuel _ _ _ w) (Z ?_)
 refine AF ?_
 refine AD h (fun h=>Z ?_) (fun h=>Z ?_)
 ·cases h
  simp only [go_sem]
 ·refine AF ?_
  replace h:=AH h; obtain⟨y,q,h⟩:=h
  refine AK (K0 _ _ _ q) (Z ?_)
  refine AF ?_
  refine AD h (fun h=>Z ?_) (fun h=>Z ?_)
  ·cases h
   simp only [go_sem]
  ·refine AF ?_
   cases h
   simp only [go_sem]
theorem I6 (n:Nat):(∀a0 u w r,Bn n a0 u w=some r→BY Try.prog Try.f43 [1,1,0,1,0] (.ow (some 1) (List.map AM r)) ⟨[(0,.ro (List.map AM a0)),(3,.own 1000001000),(4,.int .i64 w)],[(1000001000,some ⟨List.map AM u,some 1,0,false⟩)],[]⟩):=by
 induction n with
 |zero=>exact((fun _ _ _ _ h=>by rw [Bn] at h; cases h))
 | succ n ih=>
  have ih0:=ih
  ·intro a0 u w r h
   rw [Bn] at h
   refine AR rfl rfl (Z ?_)
   refine A1 (Z ?_)
   refine AD h (fun h=>Z ?_) (fun h=>Z ?_)
   ·refine AF ?_
    replace h:=AH h; obtain⟨y,q,h⟩:=h
    refine AY q rfl (Z ?_)
    replace h:=AH h; obtain⟨g,j,h⟩:=h
    refine AY j rfl (Z ?_)
    replace h:=AH h; obtain⟨k,b,h⟩:=h
    refine Fi (Di j) (Z ?_)
    refine Ag (List.map AM k) (by rw [← C1 b]; simp only [List.map_set,go_sem,slD]) (Z ?_)
    refine AF ?_
    exact lpF (ih0 a0 k (IntKind.i64.wrap (w+1)) _ h) [(1000001000,1000001000)] []
   ·refine AF ?_
    cases h
    simp only [go_sem]
theorem LS (a0 r) (h:E7 a0=some r):AC Try.prog 43 [.ro (List.map AM a0)] (.ow (some 1) (List.map AM r)):=by
 unfold E7 at h
 refine acF Try.func43 mixed (h:=Z ?_)
 replace h:=AH h; obtain⟨u,w,h⟩:=h
 have hq_:=Kk w
 obtain⟨hv2002a,hv2002b,hv2002c⟩:=hq_
 refine Ak (by refine⟨?_,?_,?_⟩ <;> omega) (Z ?_)
 refine Ag (List.map AM u) (by rw [← hv2002c]; simp only [List.map_replicate,go_sem,slD]) (Z ?_)
 refine AF ?_
 exact loF (I6 fuel a0 u 0 _ h) [(1000001000,32032)] []
theorem LT (n:Nat):(∀a0 r,Ee n a0=some r→AC Try.prog 44 [.ro (List.map Core.ds a0)] (.ow (some 4) (List.map Core.ds r)))∧
    (∀a0 u w r,B9 n a0 u w=some r→BY Try.prog Try.f44 [1,1,0,1,0] (.ow (some 4) (List.map Core.ds r)) ⟨[(0,.ro (List.map Core.ds a0)),(3,.own 1000001000),(4,.int .i64 w)],[(1000001000,some ⟨List.map Core.ds u,some 4,0,false⟩)],[]⟩)∧
    (∀a0 r,DE n a0=some r→AC Try.prog 22 [.agg (Core.avs a0)] (.agg (Core.rv r))):=by
 induction n with
 |zero=>exact⟨(fun _ _ h=>by rw [Ee] at h; cases h),(fun _ _ _ _ h=>by rw [B9] at h; cases h),(fun _ _ h=>by rw [DE] at h; cases h)⟩
 | succ n ih=>
  obtain⟨ih0,ih1,ih2⟩:=ih
  refine⟨?_,?_,?_⟩
  ·intro a0 r h
   rw [Ee] at h
   refine acF Try.func44 mixed (h:=Z ?_)
   replace h:=AH h; obtain⟨y,q,h⟩:=h
   have hq_:=Kk q
   obtain⟨hv2002a,hv2002b,hv2002c⟩:=hq_
   refine Ak (by refine⟨?_,?_,?_⟩ <;> omega) (Z ?_)
   refine Ag (List.map Core.ds y) (by rw [← hv2002c]; simp only [List.map_replicate,go_sem,Core.ds_eq]) (Z ?_)
   refine AF ?_
   exact loF (ih1 a0 y 0 _ h) [(1000001000,32032)] []
  ·intro a0 u w r h
   rw [B9] at h
   refine AR rfl rfl (Z ?_)
   refine A1 (Z ?_)
   refine AD h (fun h=>Z ?_) (fun h=>Z ?_)
   ·refine AF ?_
    replace h:=AH h; obtain⟨g,j,h⟩:=h
    refine AY j (Core.ds_len _) (Z ?_)
    replace h:=AH h; obtain⟨k,b,h⟩:=h
    refine AK (ih2 _ _ b) (Z ?_)
    replace h:=AH h; obtain⟨d,c,h⟩:=h
    refine AY c (Core.ds_len _) (Z ?_)
    replace h:=AH h; obtain⟨e,i,h⟩:=h
    refine Fi (Di c) (Z ?_)
    refine Ag (List.map Core.ds e) (by rw [← C1 i]; simp only [List.map_set,go_sem,Core.ds_eq]) (Z ?_)
    refine AF ?_
    exact lpF (ih1 a0 e (IntKind.i64.wrap (w+1)) _ h) [(1000001000,1000001000)] []
   ·refine AF ?_
    cases h
    simp only [go_sem]
  ·intro a0 r h
   rw [DE] at h
   refine acF Try.func22 mixed (h:=Z ?_)
   refine AF ?_
   refine AF ?_
   replace h:=AH h; obtain⟨l,t,h⟩:=h
   refine AK (LS _ _ t) (Z ?_)
   refine AF ?_
   replace h:=AH h; obtain⟨s,o,h⟩:=h
   refine AK (ih0 _ _ o) (Z ?_)
   refine AF ?_
   cases h
   simp only [go_sem]
theorem OU (n:Nat):(∀a0 r,DE n a0=some r→AC Try.prog 22 [.agg (Core.avs a0)] (.agg (Core.rv r))):=(LT n).2.2
theorem Ic (n:Nat):(∀a0 u w r,BT n a0 u w=some r→BY Try.prog Try.f23 [1,1,0,1,0] (.ow (some 1) (List.map A2 r)) ⟨[(0,.ro (List.map A2 a0)),(3,.own 1000001000),(4,.int .i64 w)],[(1000001000,some ⟨List.map A2 u,some 1,0,false⟩)],[]⟩):=by
 induction n with
 |zero=>exact((fun _ _ _ _ h=>by rw [BT] at h; cases h))
 | succ n ih=>
  have ih0:=ih
  ·intro a0 u w r h
   rw [BT] at h
   refine AR rfl rfl (Z ?_)
   refine A1 (Z ?_)
   refine AD h (fun h=>Z ?_) (fun h=>Z ?_)
   ·refine AF ?_
    replace h:=AH h; obtain⟨y,q,h⟩:=h
    refine AY q rfl (Z ?_)
    replace h:=AH h; obtain⟨g,j,h⟩:=h
    refine AY j rfl (Z ?_)
    replace h:=AH h; obtain⟨k,b,h⟩:=h
    refine Fi (Di j) (Z ?_)
    refine Ag (List.map A2 k) (by rw [← C1 b]; simp only [List.map_set,go_sem,slD]) (Z ?_)
    refine AF ?_
    exact lpF (ih0 a0 k (IntKind.i64.wrap (w+1)) _ h) [(1000001000,1000001000)] []
   ·refine AF ?_
    cases h
    simp only [go_sem]
theorem K1 (a0 r) (h:EL a0=some r):AC Try.prog 23 [.ro (List.map A2 a0)] (.ow (some 1) (List.map A2 r)):=by
 unfold EL at h
 refine acF Try.func23 mixed (h:=Z ?_)
 replace h:=AH h; obtain⟨u,w,h⟩:=h
 have hq_:=Kk w
 obtain⟨hv2002a,hv2002b,hv2002c⟩:=hq_
 refine Ak (by refine⟨?_,?_,?_⟩ <;> omega) (Z ?_)
 refine Ag (List.map A2 u) (by rw [← hv2002c]; simp only [List.map_replicate,go_sem,slD]) (Z ?_)
 refine AF ?_
 exact loF (Ic fuel a0 u 0 _ h) [(1000001000,32032)] []
theorem DK (a0 r) (h:CA a0=some r):AC Try.prog 7 [.agg (Labelled.avs a0)] (.agg (Labelled.rv r)):=by
 unfold CA at h
 refine acF Try.func7 mixed (h:=Z ?_)
 refine AF ?_
 refine AF ?_
 replace h:=AH h; obtain⟨u,w,h⟩:=h
 refine AK (OU fuel _ _ w) (Z ?_)
 refine AF ?_
 replace h:=AH h; obtain⟨y,q,h⟩:=h
 refine AK (K1 _ _ q) (Z ?_)
 refine AF ?_
 cases h
 simp only [go_sem]
theorem Id (n:Nat):(∀a0 a1 u r,BU n a0 a1 u=some r→BY Try.prog Try.f12 [1,1,0,1,0] (.bool r) ⟨[(0,.ro (List.map A2 a0)),(1,.ro (List.map A2 a1)),(5,.int .i64 u)],[],[]⟩):=by
 induction n with
 |zero=>exact((fun _ _ _ _ h=>by rw [BU] at h; cases h))
 | succ n ih=>
  have ih0:=ih
  ·intro a0 a1 u r h
   rw [BU] at h
   refine AR rfl rfl (Z ?_)
   refine A1 (Z ?_)
   refine AD h (fun h=>Z ?_) (fun h=>Z ?_)
   ·refine AF ?_
    refine CO [] .fin (by kernel_rfl) (Z ?_)
    replace h:=AH h; obtain⟨w,y,h⟩:=h
    refine AY y rfl (Z ?_)
    replace h:=AH h; obtain⟨q,g,h⟩:=h
    refine AY g rfl (Z ?_)
    refine AF ?_
    refine AD h (fun h=>Z ?_) (fun h=>Z ?_)
    ·cases h
     simp only [go_sem]
    ·refine AF ?_
     exact lpF (ih0 a0 a1 (IntKind.i64.wrap (u+1)) _ h) [] []
   ·refine AF ?_
    cases h
    simp only [go_sem]
theorem Dq (a0 a1 r) (h:CW a0 a1=some r):AC Try.prog 12 [.ro (List.map A2 a0),.ro (List.map A2 a1)] (.bool r):=by
 unfold CW at h
 refine acF Try.func12 mixed (h:=Z ?_)
 refine AD h (fun h=>Z ?_) (fun h=>Z ?_)
 ·cases h
  simp only [go_sem]
 ·refine AF ?_
  exact loF (Id fuel a0 a1 0 _ h) [] []
theorem I7 (n:Nat):(∀a0 a1 u r,Bo n a0 a1 u=some r→BY Try.prog Try.f53 [1,1,0,1,0] (.bool r) ⟨[(0,.ro (List.map AM a0)),(1,.ro (List.map AM a1)),(5,.int .i64 u)],[],[]⟩):=by
 induction n with
 |zero=>exact((fun _ _ _ _ h=>by rw [Bo] at h; cases h))
 | succ n ih=>
  have ih0:=ih
  ·intro a0 a1 u r h
   rw [Bo] at h
   refine AR rfl rfl (Z ?_)
   refine A1 (Z ?_)
   refine AD h (fun h=>Z ?_) (fun h=>Z ?_)
   ·refine AF ?_
    refine CO [] .fin (by kernel_rfl) (Z ?_)
    replace h:=AH h; obtain⟨w,y,h⟩:=h
    refine AY y rfl (Z ?_)
    replace h:=AH h; obtain⟨q,g,h⟩:=h
    refine AY g rfl (Z ?_)
    refine AF ?_
    refine AD h (fun h=>Z ?_) (fun h=>Z ?_)
    ·cases h
     simp only [go_sem]
    ·refine AF ?_
     exact lpF (ih0 a0 a1 (IntKind.i64.wrap (u+1)) _ h) [] []
   ·refine AF ?_
    cases h
    simp only [go_sem]
theorem LU (a0 a1 r) (h:E8 a0 a1=some r):AC Try.prog 53 [.ro (List.map AM a0),.ro (List.map AM a1)] (.bool r):=by
 unfold E8 at h
 refine acF Try.func53 mixed (h:=Z ?_)
 refine AD h (fun h=>Z ?_) (fun h=>Z ?_)
 ·cases h
  simp only [go_sem]
 ·refine AF ?_
  exact loF (I7 fuel a0 a1 0 _ h) [] []
theorem LV (n:Nat):(∀a0 a1 r,Ef n a0 a1=some r→AC Try.prog 54 [.ro (List.map Core.ds a0),.ro (List.map Core.ds a1)] (.bool r))∧
    (∀a0 a1 u r,CB n a0 a1 u=some r→BY Try.prog Try.f54 [1,1,0,1,0] (.bool r) ⟨[(0,.ro (List.map Core.ds a0)),(1,.ro (List.map Core.ds a1)),(5,.int .i64 u)],[],[]⟩)∧
    (∀a0 a1 r,DF n a0 a1=some r→AC Try.prog 29 [.agg (Core.avs a0),.agg (Core.avs a1)] (.bool r)):=by
 induction n with
 |zero=>exact⟨(fun _ _ _ h=>by rw [Ef] at h; cases h),(fun _ _ _ _ h=>by rw [CB] at h; cases h),(fun _ _ _ h=>by rw [DF] at h; cases h)⟩
 | succ n ih=>
  obtain⟨ih0,ih1,ih2⟩:=ih
  refine⟨?_,?_,?_⟩
  ·intro a0 a1 r h
   rw [Ef] at h
   refine acF Try.func54 mixed (h:=Z ?_)
   refine FT (fun w=>?_) (fun w=>?_)
   ·replace h:=ifT (c:=(!decide (((List.length a0:Nat):Int)=((List.length a1:Nat):Int)))) w h
    try simp only [go_sem]
    cases h
    simp only [go_sem]
   ·replace h:=ifF (c:=(!decide (((List.length a0:Nat):Int)=((List.length a1:Nat):Int)))) w h
    try simp only [go_sem]
    refine AF ?_
    exact loF (ih1 a0 a1 0 _ h) [] []
  ·intro a0 a1 u r h
   rw [CB] at h
   refine AR rfl rfl (Z ?_)
   refine A1 (Z ?_)
   refine FT (fun y=>?_) (fun y=>?_)
   ·replace h:=ifT (c:=(decide (u<((List.length a0:Nat):Int)))) y h
    try simp only [go_sem]
    refine AF ?_
    refine CO [] .fin (by kernel_rfl) (Z ?_)
    replace h:=AH h; obtain⟨q,g,h⟩:=h
    refine AY g (Core.ds_len _) (Z ?_)
    replace h:=AH h; obtain⟨j,k,h⟩:=h
    refine AY k (Core.ds_len _) (Z ?_)
    replace h:=AH h; obtain⟨b,d,h⟩:=h
    refine AK (ih2 _ _ _ d) (Z ?_)
    refine AF ?_
    refine FT (fun e=>?_) (fun e=>?_)
    ·replace h:=ifT (c:=(!b)) e h
     try simp only [go_sem]
     cases h
     simp only [go_sem]
    ·replace h:=ifF (c:=(!b)) e h
     try simp only [go_sem]
     refine AF ?_
     exact lpF (ih1 a0 a1 (IntKind.i64.wrap (u+1)) _ h) [] []
   ·replace h:=ifF (c:=(decide (u<((List.length a0:Nat):Int)))) y h
    try simp only [go_sem]
    refine AF ?_
    cases h
    simp only [go_sem]
  ·intro a0 a1 r h
   rw [DF] at h
   refine acF Try.func29 mixed (h:=Z ?_)
   refine FT (fun w=>?_) (fun w=>?_)
   ·replace h:=ifT (c:=(!decide (a0.kind=a1.kind))) w h
    try simp only [go_sem]
    cases h
    simp only [go_sem]
   ·replace h:=ifF (c:=(!decide (a0.kind=a1.kind))) w h
    try simp only [go_sem]
    refine AF ?_
    refine FT (fun y=>?_) (fun y=>?_)
    ·replace h:=ifT (c:=(!decide (a0.value=a1.value))) y h
     try simp only [go_sem]
     cases h
     simp only [go_sem]
    ·replace h:=ifF (c:=(!decide (a0.value=a1.value))) y h
     try simp only [go_sem]
     refine AF ?_
     replace h:=AH h; obtain⟨i,l,h⟩:=h
     refine AK (LU _ _ _ l) (Z ?_)
     refine AF ?_
     refine FT (fun e=>?_) (fun e=>?_)
     ·replace h:=ifT (c:=(!i)) e h
      try simp only [go_sem]
      cases h
      simp only [go_sem]
     ·replace h:=ifF (c:=(!i)) e h
      try simp only [go_sem]
      refine AF ?_
      replace h:=AH h; obtain⟨t,s,h⟩:=h
      refine AK (ih0 _ _ _ s) (Z ?_)
      refine AF ?_
      refine AD h (fun h=>Z ?_) (fun h=>Z ?_)
      ·cases h
       simp only [go_sem]
      ·refine AF ?_
       cases h
       simp only [go_sem]
theorem OV (n:Nat):(∀a0 a1 r,DF n a0 a1=some r→AC Try.prog 29 [.agg (Core.avs a0),.agg (Core.avs a1)] (.bool r)):=(LV n).2.2
theorem Ja (a0 a1 r) (h:Dn a0 a1=some r):AC Try.prog 9 [.agg (Labelled.avs a0),.agg (Labelled.avs a1)] (.bool r):=by
 unfold Dn at h
 refine acF Try.func9 mixed (h:=Z ?_)
 replace h:=AH h; obtain⟨u,w,h⟩:=h
 refine AK (OV fuel _ _ _ w) (Z ?_)
 refine AF ?_
 refine AD h (fun h=>Z ?_) (fun h=>Z ?_)
 ·cases h
  simp only [go_sem]
 ·refine AF ?_
  replace h:=AH h; obtain⟨y,q,h⟩:=h
  refine AK (Dq _ _ _ q) (Z ?_)
  refine AF ?_
  refine AD h (fun h=>Z ?_) (fun h=>Z ?_)
  ·cases h
   simp only [go_sem]
  ·refine AF ?_
   cases h
   simp only [go_sem]
end Go.Proofs.Ytgigfdghecdlgaa.Ab
