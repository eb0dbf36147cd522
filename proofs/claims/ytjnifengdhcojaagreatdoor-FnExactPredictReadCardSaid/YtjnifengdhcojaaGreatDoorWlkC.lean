/- The functions do what their models say. -/
import Derived.Test.YtjnifengdhcojaaGreatDoorModC
import Derived.Test.YtjnifengdhcojaaGreatDoorTi2
import Derived.Test.YtjnifengdhcojaaGreatDoorWlkU
import Derived.Test.YtjnifengdhcojaaGreatDoorWlkQ
namespace Go.Proofs.YtjnifengdhcojaaGreatDoor.Ab
set_option linter.defProp false
set_option linter.unusedVariables false
set_option linter.unusedSimpArgs false
set_option maxRecDepth 20000
set_option maxHeartbeats 4000000
open Go.RowKit _root_.Go.Proofs.Tryz
theorem Vv (n:Nat):(∀j p r,F7 n j p=some r→AC prog 46 [.ro (j.map Core.ds),.int .i64 p] (.int .i64 r))∧
    (∀j u w r,Du n j u w=some r→AR prog f46 [1,1,1,0,1,0] (.int .i64 r) ⟨[(0,.ro (j.map Core.ds)),(1,.int .i64 u),(5,.int .i64 w)],[],[]⟩)∧
    (∀j p r,JQ n j p=some r→AC prog 97 [.agg (Core.avs j),.int .i64 p] (.int .i64 r)):=by
 induction n with
 |zero=>exact⟨(fun _ _ _ h=>by rw [F7] at h; cases h),(fun _ _ _ _ h=>by rw [Du] at h; cases h),(fun _ _ _ h=>by rw [JQ] at h; cases h)⟩
 | succ n ih=>
  obtain⟨C,v,F⟩:=ih
  refine⟨?_,?_,?_⟩
  ·intro j p r h
   rw [F7] at h
   refine acF func46 mixed (h:=Z ?_)
   refine Hn (fun y=>?_) (fun y=>?_)
   ·replace h:=ifT (c:=(decide ((IntKind.i64.wrap (p - (j.length:Int)))<0))) y h
    try simp only [go_sem]
    exact AF trivial h
   ·replace h:=ifF (c:=(decide ((IntKind.i64.wrap (p - (j.length:Int)))<0))) y h
    try simp only [go_sem]
    exact AF (k1 v) h
  ·intro j u w r h
   rw [Du] at h
   refine Am rfl rfl (Z ?_)
   refine A5 (Z ?_)
   refine Hn (fun q=>?_) (fun q=>?_)
   ·replace h:=ifT (c:=(decide (w<(j.length:Int)))) q h
    try simp only [go_sem]
    exact AF (k2 F v) h
   ·replace h:=ifF (c:=(decide (w<(j.length:Int)))) q h
    try simp only [go_sem]
    exact AF trivial h
  ·intro j p r h
   rw [JQ] at h
   refine acF func97 mixed (h:=Z ?_)
   replace h:=AB h; obtain⟨d,e,h⟩:=h
   refine AK (Ny _ _ _ e) (Z ?_)
   refine AL ?_
   refine Hn (fun y=>?_) (fun y=>?_)
   ·replace h:=ifT (c:=(decide (d<0))) y h
    try simp only [go_sem]
    exact AF trivial h
   ·replace h:=ifF (c:=(decide (d<0))) y h
    try simp only [go_sem]
    refine AL ?_
    replace h:=AB h; obtain⟨i,l,h⟩:=h
    refine AK (C _ _ _ l) (Z ?_)
    refine AL ?_
    refine Hn (fun q=>?_) (fun q=>?_)
    ·replace h:=ifT (c:=(decide (i<0))) q h
     try simp only [go_sem]
     exact AF trivial h
    ·replace h:=ifF (c:=(decide (i<0))) q h
     try simp only [go_sem]
     exact AF trivial h
def YJ (n:Nat):=(Vv n).1
theorem Vw (n:Nat):(∀v r,FR n v=some r→AC prog 49 [.ro (v.map Core.ds)] (.ow (some 4) (r.map Core.ds)))∧
    (∀v u w r,Dv n v u w=some r→AR prog f49 [1,1,0,1,0] (.ow (some 4) (r.map Core.ds)) ⟨[(0,.ro (v.map Core.ds)),(3,.own 1000001000),(4,.int .i64 w)],[(1000001000,some ⟨List.map Core.ds u,some 4,0,.no⟩)],[]⟩)∧
    (∀v r,JR n v=some r→AC prog 103 [.agg (Core.avs v)] (.agg (Core.rv r))):=by
 induction n with
 |zero=>exact⟨(fun _ _ h=>by rw [FR] at h; cases h),(fun _ _ _ _ h=>by rw [Dv] at h; cases h),(fun _ _ h=>by rw [JR] at h; cases h)⟩
 | succ n ih=>
  obtain⟨I,G,O⟩:=ih
  refine⟨?_,?_,?_⟩
  ·intro v r h
   rw [FR] at h
   refine acF func49 mixed (h:=Z ?_)
   replace h:=AB h; obtain⟨y,q,h⟩:=h
   have J:=Mg q
   obtain⟨F,C,p⟩:=J
   refine Bu (by refine⟨?_,?_,?_⟩ <;> omega) (Z ?_)
   refine Bp .no (Z ?_)
   refine A4 (y.map Core.ds) (by rw [← p]; simp only [List.map_replicate,go_sem,Core.ds_eq]) (Z ?_)
   exact AF (k1 G) h
  ·intro v u w r h
   rw [Dv] at h
   refine Am rfl rfl (Z ?_)
   refine A5 (Z ?_)
   refine AJ h (fun h=>Z ?_) (fun h=>Z ?_)
   ·refine AL ?_
    replace h:=AB h; obtain⟨g,j,h⟩:=h
    refine AS j (Core.ds_len _) (Z ?_)
    replace h:=AB h; obtain⟨k,b,h⟩:=h
    refine AK (O _ _ b) (Z ?_)
    replace h:=AB h; obtain⟨d,c,h⟩:=h
    refine AS c (Core.ds_len _) (Z ?_)
    replace h:=AB h; obtain⟨e,i,h⟩:=h
    refine CM (Bq c) (Z ?_)
    refine A4 (e.map Core.ds) (by rw [← BE i]; simp only [List.map_set,go_sem,Core.ds_eq]) (Z ?_)
    exact AF (k1 G) h
   ·exact AF trivial h
  ·intro v r h
   rw [JR] at h
   refine acF func103 mixed (h:=Z ?_)
   exact AF (k2 Nz I) h
def YK (n:Nat):=(Vw n).1
theorem N1 (n:Nat):(∀p v r,FS n p v=some r→AC prog 52 [.ro (p.map Core.ds),.ro (v.map Core.ds)] (.bool r))∧
    (∀p v u r,Dw n p v u=some r→AR prog f52 [1,1,0,1,0] (.bool r) ⟨[(0,.ro (p.map Core.ds)),(1,.ro (v.map Core.ds)),(5,.int .i64 u)],[],[]⟩)∧
    (∀p v r,EW n p v=some r→AC prog 23 [.agg (Core.avs p),.agg (Core.avs v)] (.bool r)):=by
 induction n with
 |zero=>exact⟨(fun _ _ _ h=>by rw [FS] at h; cases h),(fun _ _ _ _ h=>by rw [Dw] at h; cases h),(fun _ _ _ h=>by rw [EW] at h; cases h)⟩
 | succ n ih=>
  obtain⟨F,C,G⟩:=ih
  refine⟨?_,?_,?_⟩
  ·intro p v r h
   rw [FS] at h
   refine acF func52 mixed (h:=Z ?_)
   refine Hn (fun w=>?_) (fun w=>?_)
   ·replace h:=ifT (c:=(!decide ((p.length:Int)=(v.length:Int)))) w h
    try simp only [go_sem]
    exact AF trivial h
   ·replace h:=ifF (c:=(!decide ((p.length:Int)=(v.length:Int)))) w h
    try simp only [go_sem]
    exact AF (k1 C) h
  ·intro p v u r h
   rw [Dw] at h
   refine Am rfl rfl (Z ?_)
   refine A5 (Z ?_)
   refine Hn (fun y=>?_) (fun y=>?_)
   ·replace h:=ifT (c:=(decide (u<(p.length:Int)))) y h
    try simp only [go_sem]
    refine AL ?_
    refine AY [] .fin (by kernel_rfl) (Z ?_)
    replace h:=AB h; obtain⟨q,g,h⟩:=h
    refine AS g (Core.ds_len _) (Z ?_)
    replace h:=AB h; obtain⟨j,k,h⟩:=h
    refine AS k (Core.ds_len _) (Z ?_)
    replace h:=AB h; obtain⟨b,d,h⟩:=h
    refine AK (G _ _ _ d) (Z ?_)
    refine AL ?_
    refine Hn (fun e=>?_) (fun e=>?_)
    ·replace h:=ifT (c:=(!b)) e h
     try simp only [go_sem]
     exact AF trivial h
    ·replace h:=ifF (c:=(!b)) e h
     try simp only [go_sem]
     exact AF (k1 C) h
   ·replace h:=ifF (c:=(decide (u<(p.length:Int)))) y h
    try simp only [go_sem]
    exact AF trivial h
  ·intro p v r h
   rw [EW] at h
   refine acF func23 mixed (h:=Z ?_)
   refine Hn (fun w=>?_) (fun w=>?_)
   ·replace h:=ifT (c:=(!decide (p.kind=v.kind))) w h
    try simp only [go_sem]
    exact AF trivial h
   ·replace h:=ifF (c:=(!decide (p.kind=v.kind))) w h
    try simp only [go_sem]
    refine AL ?_
    refine Hn (fun y=>?_) (fun y=>?_)
    ·replace h:=ifT (c:=(!decide (p.value=v.value))) y h
     try simp only [go_sem]
     exact AF trivial h
    ·replace h:=ifF (c:=(!decide (p.value=v.value))) y h
     try simp only [go_sem]
     refine AL ?_
     replace h:=AB h; obtain⟨i,l,h⟩:=h
     refine AK (N0 _ _ _ l) (Z ?_)
     refine AL ?_
     refine Hn (fun e=>?_) (fun e=>?_)
     ·replace h:=ifT (c:=(!i)) e h
      try simp only [go_sem]
      exact AF trivial h
     ·replace h:=ifF (c:=(!i)) e h
      try simp only [go_sem]
      exact AF (k1 F) h
def YL (n:Nat):=(N1 n).1
def My (n:Nat):=(N1 n).2.2
theorem Sm (n:Nat):(∀I G (p:Option Nat) r,C9 n I G=some r→AG prog 53 [.own 1,.int .i64 G] [(1,⟨List.map Core.ds I,p,0,.no⟩)] [] (.int .i64 r.1) [(1,⟨List.map Core.ds r.2,p,0,.no⟩)] [])∧
    (∀u w y (p:Option Nat) r,Ca n u w y=some r→B2 prog f53 [1,0,1,0] (.int .i64 r.1) [(1,⟨List.map Core.ds r.2,p,0,.no⟩)] [] ⟨[(0,.own 1),(1,.int .i64 w),(5,.int .i64 y)],[(1,some ⟨List.map Core.ds u,p,0,.no⟩)],[]⟩):=by
 induction n with
 |zero=>exact⟨(fun _ _ _ _ h=>by rw [C9] at h; cases h),(fun _ _ _ _ _ h=>by rw [Ca] at h; cases h)⟩
 | succ n ih=>
  obtain⟨J,C⟩:=ih
  refine⟨?_,?_⟩
  ·intro I G p r h
   rw [C9] at h
   refine agF func53 mixed (h:=Z ?_)
   exact bt (C I G 0 p _ h)
  ·intro u w y p r h
   rw [Ca] at h
   refine Ae rfl rfl (Z ?_)
   refine A5 (Z ?_)
   refine AJ h (fun h=>Z ?_) (fun h=>Z ?_)
   ·refine AL ?_
    replace h:=AB h; obtain⟨q,g,h⟩:=h
    refine AS g (Core.ds_len _) (Z ?_)
    replace h:=AB h; obtain⟨j,k,h⟩:=h
    refine CM (Bq g) (Z ?_)
    refine A4 (j.map Core.ds) (by rw [← BE k]; simp only [List.map_set,go_sem,Core.ds_eq]) (Z ?_)
    replace h:=AB h; obtain⟨b,d,h⟩:=h
    refine AS d (Core.ds_len _) (Z ?_)
    replace h:=AB h; obtain⟨c,e,h⟩:=h
    refine CM (Bq d) (Z ?_)
    refine A4 (c.map Core.ds) (by rw [← BE e]; simp only [List.map_set,go_sem,Core.ds_eq]) (Z ?_)
    replace h:=AB h; obtain⟨i,l,h⟩:=h
    refine AS l (Core.ds_len _) (Z ?_)
    refine CM (Bq l) (Z ?_)
    replace h:=AB h; obtain⟨t,s,h⟩:=h
    replace h:=AB h; obtain⟨o,z,h⟩:=h
    refine caG ⟨[(3000144096,.sub 1 0 [(4,Int.toNat y,2)],none)],[(1,3000144096)],[],[],[],true⟩ (Ic _ _ none _ s) (Z ?_)
    refine CM (Xo (r:=List.map AD i.data) (Bq l) (Core.ds_len _) (by simp only [go_sem,Core.ds_eq])) (Z ?_)
    refine A4 ((c.map Core.ds).set (Int.toNat y) [.int .i64 i.kind,.int .i64 i.value,.gone,.sl (i.kids.map Core.ds)]) ((Mf (Bq l) (d':=.sl (i.data.map AD)) (by simp only [go_sem,Core.ds_eq])).trans (by simp only [go_sem,Core.ds_eq])) (Z ?_)
    refine Bu (Xp (Me (Bq l)) rfl rfl) (Z ?_)
    refine A4 (o.map Core.ds) (((Mf (Me (Bq l)) (d':=.gone) rfl).trans (List.set_set ..)).trans (by rw [← BE z]; simp only [List.map_set,go_sem,Core.ds_eq])) (Z ?_)
    refine AL ?_
    replace h:=AB h; obtain⟨F,v,h⟩:=h
    refine AS v (Core.ds_len _) (Z ?_)
    refine CM (Bq v) (Z ?_)
    replace h:=AB h; obtain⟨Y,W,h⟩:=h
    replace h:=AB h; obtain⟨O,U,h⟩:=h
    refine caG ⟨[(3000160096,.sub 1 0 [(4,Int.toNat y,3)],none)],[(1,3000160096)],[],[],[],true⟩ (J _ _ none _ W) (Z ?_)
    refine CM (Xo (r:=List.map Core.ds F.kids) (Bq v) (Core.ds_len _) (by simp only [go_sem,Core.ds_eq])) (Z ?_)
    refine A4 ((o.map Core.ds).set (Int.toNat y) [.int .i64 F.kind,.int .i64 F.value,.sl (F.data.map AD),.gone]) ((Mf (Bq v) (d':=.sl (F.kids.map Core.ds)) (by simp only [go_sem,Core.ds_eq])).trans (by simp only [go_sem,Core.ds_eq])) (Z ?_)
    refine Bu (Xp (Me (Bq v)) rfl rfl) (Z ?_)
    refine A4 (O.map Core.ds) (((Mf (Me (Bq v)) (d':=.gone) rfl).trans (List.set_set ..)).trans (by rw [← BE U]; simp only [List.map_set,go_sem,Core.ds_eq])) (Z ?_)
    refine AL ?_
    exact jN (C O Y.1 (IntKind.i64.wrap (y+1)) p _ h)
   ·exact AF trivial h
def Mz (n:Nat):=(Sm n).1
theorem Vx (a0 a1) (z1:Option Nat) (z2:Option Nat) (r) (h:Hq a0 a1=some r):AG prog 26 [.agg [.int .i64 a0.kind,.int .i64 a0.value,.own 1,.own 2],.int .i64 a1] [(1,⟨List.map AD a0.data,z1,0,.no⟩),(2,⟨List.map Core.ds a0.kids,z2,0,.no⟩)] [] (.int .i64 r.1) [(1,⟨List.map AD r.2.1,z1,0,.no⟩),(2,⟨List.map Core.ds r.2.2,z2,0,.no⟩)] [] :=by
 unfold Hq at h
 refine agF func26 mixed (h:=Z ?_)
 replace h:=AB h; obtain⟨u,w,h⟩:=h
 refine caG ⟨[],[(1,1)],[],[],[],true⟩ (Ic _ _ z1 _ w) (Z ?_)
 refine AL ?_
 replace h:=AB h; obtain⟨y,q,h⟩:=h
 refine caG ⟨[],[(1,2)],[],[],[],true⟩ (Mz fuel _ _ z2 _ q) (Z ?_)
 exact AF trivial h
theorem Sn (n:Nat):(∀j q r,Dx n j q=some r→AC prog 54 [.ro (j.map Core.ds),.int .i64 q] (.int .i64 r))∧
    (∀j u w r,Cb n j u w=some r→AR prog f54 [1,0,1,0] (.int .i64 r) ⟨[(0,.ro (j.map Core.ds)),(1,.int .i64 u),(5,.int .i64 w)],[],[]⟩):=by
 induction n with
 |zero=>exact⟨(fun _ _ _ h=>by rw [Dx] at h; cases h),(fun _ _ _ _ h=>by rw [Cb] at h; cases h)⟩
 | succ n ih=>
  obtain⟨v,p⟩:=ih
  refine⟨?_,?_⟩
  ·intro j q r h
   rw [Dx] at h
   refine acF func54 mixed (h:=Z ?_)
   exact AF (k1 p) h
  ·intro j u w r h
   rw [Cb] at h
   exact AF (k3 Lu v p) h
def VF (n:Nat):=(Sn n).1
theorem N2 (a0 a1 r) (h:Gb a0 a1=some r):AC prog 27 [.agg (Core.avs a0),.int .i64 a1] (.int .i64 r):=by
 unfold Gb at h
 refine acF func27 mixed (h:=Z ?_)
 replace h:=AB h; obtain⟨u,w,h⟩:=h
 refine AK (Lu _ _ _ w) (Z ?_)
 refine AL ?_
 refine AJ h (fun h=>Z ?_) (fun h=>Z ?_)
 ·exact AF trivial h
 ·refine AL ?_
  replace h:=AB h; obtain⟨y,q,h⟩:=h
  refine AK (VF fuel _ _ _ q) (Z ?_)
  exact AF trivial h
theorem Ie (n:Nat):(∀ (C:List Core) (u:Int) (I:(Core→Option Bool)) (G:FuncId) (F:List AV) (v:Still F) (h1:∀ (y0:Core) (q:Bool),I y0=some q→AC prog G (fnA F [.agg (Core.avs y0)]) (.bool q)) (r:Int),As n C u I=some r→AR prog f239 [1,0,1,0] (.int .i64 r) ⟨[(0,.ro (C.map Core.ds)),(1,.fn G F),(7,.int .i64 (C.length:Int)),(8,.int .i64 u)],[],[]⟩):=by
 induction n with
 |zero=>exact((fun _ _ _ _ _ _ _ _ h=>by rw [As] at h; cases h))
 | succ n ih=>
  have J:=ih
  ·intro C u I G F v h1 r h
   rw [As] at h
   refine Am rfl rfl ?_
   try simp only [go_sem,v.k,v.r,v.c,v.p,v.o,v.f]
   refine A5 ?_
   try simp only [go_sem,v.k,v.r,v.c,v.p,v.o,v.f]
   refine AJ h (fun h=>?_) (fun h=>?_)
   ·try simp only [go_sem,v.k,v.r,v.c,v.p,v.o,v.f]
    refine CO ?_
    try simp only [go_sem,v.k,v.r,v.c,v.p,v.o,v.f]
    replace h:=AB h; obtain⟨w,y,h⟩:=h
    refine AS y (Core.ds_len _) ?_
    try simp only [go_sem,v.k,v.r,v.c,v.p,v.o,v.f]
    replace h:=AB h; obtain⟨g,j,h⟩:=h
    refine AK (h1 _ _ j) ?_
    try simp only [go_sem,v.k,v.r,v.c,v.p,v.o,v.f]
    refine CO ?_
    try simp only [go_sem,v.k,v.r,v.c,v.p,v.o,v.f]
    refine AJ h (fun h=>?_) (fun h=>?_)
    ·try simp only [go_sem,v.k,v.r,v.c,v.p,v.o,v.f]
     cases h
     simp only [go_sem,v.k,v.r,v.c,v.p,v.o,v.f]
    ·try simp only [go_sem,v.k,v.r,v.c,v.p,v.o,v.f]
     refine CO ?_
     try simp only [go_sem,v.k,v.r,v.c,v.p,v.o,v.f]
     refine W2 (CS rfl rfl (J C (IntKind.i64.wrap (u+1)) I G F v h1 _ h):) (.one ⟨_,.done _,[],[],?_⟩)
     try simp only [go_sem,v.k,v.r,v.c,v.p,v.o,v.f]
   ·try simp only [go_sem,v.k,v.r,v.c,v.p,v.o,v.f]
    refine CO ?_
    try simp only [go_sem,v.k,v.r,v.c,v.p,v.o,v.f]
    cases h
    simp only [go_sem,v.k,v.r,v.c,v.p,v.o,v.f]
theorem Js (a0:List Core) (f1:(Core→Option Bool)) (g1:FuncId) (c1:List AV) (s1:Still c1) (h1:∀ (y0:Core) (q:Bool),f1 y0=some q→AC prog g1 (fnA c1 [.agg (Core.avs y0)]) (.bool q)) (r:Int) (h:C1 a0 f1=some r):AC prog 239 [.ro (a0.map Core.ds),.fn g1 c1] (.int .i64 r):=by
 unfold C1 at h
 refine acF func239 mixed (h:=?_)
 try simp only [go_sem,s1.k,s1.r,s1.c,s1.p,s1.o,s1.f]
 refine CL (CS rfl rfl (Ie fuel a0 0 f1 g1 c1 s1 h1 _ h):) (.one ⟨_,.done _,[],[],?_⟩)
 try simp only [go_sem,s1.k,s1.r,s1.c,s1.p,s1.o,s1.f]
theorem Cw (a0:List Core) (f1:(Core→Option Bool)) (g1:FuncId) (c1:List AV) (s1:Still c1) (h1:∀ (y0:Core) (q:Bool),f1 y0=some q→AC prog g1 (fnA c1 [.agg (Core.avs y0)]) (.bool q)) (r:Bool) (h:Ac a0 f1=some r):AC prog 207 [.ro (a0.map Core.ds),.fn g1 c1] (.bool r):=by
 unfold Ac at h
 refine acF func207 mixed (h:=?_)
 try simp only [go_sem,s1.k,s1.r,s1.c,s1.p,s1.o,s1.f]
 replace h:=AB h; obtain⟨u,w,h⟩:=h
 refine AK (Js _ _ g1 c1 s1 h1 _ w) ?_
 try simp only [go_sem,s1.k,s1.r,s1.c,s1.p,s1.o,s1.f]
 refine CO ?_
 try simp only [go_sem,s1.k,s1.r,s1.c,s1.p,s1.o,s1.f]
 cases h
 simp only [go_sem,s1.k,s1.r,s1.c,s1.p,s1.o,s1.f]
theorem RO (n:Nat):(∀j r,Dy n j=some r→AC prog 216 [.agg (Core.avs j)] (.tup [.int .i64 r.1,.int .i64 r.2]))∧
    (∀j u w y r,CE n j u w y=some r→AR prog f216 [1,1,0,1,0] (.tup [.int .i64 r.1,.int .i64 r.2]) ⟨[(2,.int .i64 u),(3,.int .i64 w),(9,.ro (j.kids.map Core.ds)),(10,.int .i64 (j.kids.length:Int)),(11,.int .i64 y)],[],[]⟩):=by
 induction n with
 |zero=>exact⟨(fun _ _ h=>by rw [Dy] at h; cases h),(fun _ _ _ _ _ h=>by rw [CE] at h; cases h)⟩
 | succ n ih=>
  obtain⟨q,p⟩:=ih
  refine⟨?_,?_⟩
  ·intro j r h
   rw [Dy] at h
   refine acF func216 mixed (h:=Z ?_)
   exact AF (k1 p) h
  ·intro j u w y r h
   rw [CE] at h
   exact AF (k2 q p) h
def So (n:Nat):=(RO n).1
theorem N3 (a0 r) (h:Gc a0=some r):AC prog 164 [.agg (Core.avs a0)] (.bool r):=by
 unfold Gc at h
 refine acF func164 mixed (h:=Z ?_)
 replace h:=AB h; obtain⟨u,w,h⟩:=h
 refine AK (So fuel _ _ w) (Z ?_)
 exact AF trivial h
theorem M0 (a0 r) (h:Dz a0=some r):AC prog 273 [.int .i64 a0] (.bool r):=by
 unfold Dz at h
 refine acF func273 mixed (h:=Z ?_)
 exact AF (k1 GZ) h
theorem Fe (a0:Core) (u:Bool) (w:Bool) (y:Int) (r:Bool) (h:AZ a0 u w y=some r):AR prog f267 [1,1,1,1,1] (.bool r) ⟨[(1,.box 1000002500 0),(3,.int .i64 (a0.kids.length:Int)),(4,.bool u),(5,.bool w),(6,.int .i64 y)],[],[(1000002500,some (Core.avs a0))]⟩:=by
 unfold AZ at h
 refine Am rfl rfl (Z ?_)
 refine AJ h (fun h=>Z ?_) (fun h=>Z ?_)
 ·refine AJ h (fun h=>Z ?_) (fun h=>Z ?_)
  ·refine AJ h (fun h=>Z ?_) (fun h=>Z ?_)
   ·replace h:=AB h; obtain⟨g,j,h⟩:=h
    refine AK (Bm _ _ 273 [] (Still.of rfl) (fun v q p=>M0 v  q p) _ j) (Z ?_)
    exact AF trivial h
   ·exact AF trivial h
  ·exact AF trivial h
 ·exact AF trivial h
theorem L0 (a0:Core) (u:Bool) (r:Bool) (h:DT a0 u=some r):AR prog f267 [1,1,1,1,0,1,0,1,1,1,1,1,1,1,1,1] (.bool r) ⟨[(1,.box 1000001500 0),(3,.int .i64 (a0.kids.length:Int)),(5,.bool (decide ((a0.data.length:Int)=0))),(6,.int .i64 0),(15,.int .i64 a0.kind),(42,.bool u)],[],[(1000001500,some (Core.avs a0))]⟩:=by
 unfold DT at h
 exact AF (k2 Fe GZ) h
theorem L2 (a0:Core) (u:Bool) (r:Bool) (h:DU a0 u=some r):AR prog f267 [1,1,1,1,0,1,0,1,1,1,1,1,1,1] (.bool r) ⟨[(1,.box 1000000500 0),(3,.int .i64 (a0.kids.length:Int)),(5,.bool (decide ((a0.data.length:Int)=0))),(6,.int .i64 0),(15,.int .i64 a0.kind),(36,.bool u)],[],[(1000000500,some (Core.avs a0))]⟩:=by
 unfold DU at h
 exact AF (k2 Fe L0) h
theorem Oi (a0 r) (h:FF a0=some r):AC prog 267 [.agg (Core.avs a0)] (.bool r):=by
 unfold FF at h
 refine acF func267 mixed (h:=Z ?_)
 exact AF (k4 Fe VG Lv L2) h
theorem Sp (n:Nat):(∀j r,Em n j=some r→AC prog 258 [.agg (Core.avs j)] (.tup [.int .i64 r.1,.int .i64 r.2.1,.bool r.2.2]))∧
    (∀j u w y r,Cc n j u w y=some r→AR prog f258 [1,1,1,0,1,0] (.tup [.int .i64 r.1,.int .i64 r.2.1,.bool r.2.2]) ⟨[(2,.int .i64 u),(3,.int .i64 w),(14,.ro (j.kids.map Core.ds)),(15,.int .i64 (j.kids.length:Int)),(16,.int .i64 y)],[],[]⟩):=by
 induction n with
 |zero=>exact⟨(fun _ _ h=>by rw [Em] at h; cases h),(fun _ _ _ _ _ h=>by rw [Cc] at h; cases h)⟩
 | succ n ih=>
  obtain⟨q,p⟩:=ih
  refine⟨?_,?_⟩
  ·intro j r h
   rw [Em] at h
   refine acF func258 mixed (h:=Z ?_)
   exact AF (k2 Oi p) h
  ·intro j u w y r h
   rw [Cc] at h
   exact AF (k2 q p) h
def VH (n:Nat):=(Sp n).1
theorem M1 (a0 r) (h:Gl a0=some r):AC prog 240 [.agg (Core.avs a0)] (.bool r):=by
 unfold Gl at h
 refine acF func240 mixed (h:=Z ?_)
 replace h:=AB h; obtain⟨u,w,h⟩:=h
 refine AK (VH fuel _ _ w) (Z ?_)
 exact AF (k1 N3) h
theorem Lj (a0 r) (h:F8 a0=some r):AC prog 145 [.bool a0] (.int .i64 r):=by
 unfold F8 at h
 refine acF func145 mixed (h:=Z ?_)
 exact AF trivial h
theorem Lw (a0 a1 r) (h:F9 a0 a1=some r):AC prog 260 [.agg (Core.avs a0),.int .i64 a1] (.int .i64 r):=by
 unfold F9 at h
 refine acF func260 mixed (h:=Z ?_)
 exact AF (k1 Lj) h
theorem QE (n:Nat):(∀j p r,DA n j p=some r→AC prog 243 [.agg (Core.avs j),.int .i64 p] (.bool r))∧
    (∀j p u r,CP n j p u=some r→AR prog f243 [1,0,1] (.bool r) ⟨[(1,.int .i64 p),(2,.box 1000000500 0),(15,.bool u)],[],[(1000000500,some (Core.avs j))]⟩)∧
    (∀j p w r,By n j p w=some r→AR prog f243 [1,1,0,1,0] (.bool r) ⟨[(1,.int .i64 p),(2,.box 1000002500 0),(17,.ro (j.kids.map Core.ds)),(18,.int .i64 (j.kids.length:Int)),(19,.int .i64 w)],[],[(1000002500,some (Core.avs j))]⟩):=by
 induction n with
 |zero=>exact⟨(fun _ _ _ h=>by rw [DA] at h; cases h),(fun _ _ _ _ h=>by rw [CP] at h; cases h),(fun _ _ _ _ h=>by rw [By] at h; cases h)⟩
 | succ n ih=>
  obtain⟨v,C,q⟩:=ih
  refine⟨?_,?_,?_⟩
  ·intro j p r h
   rw [DA] at h
   refine acF func243 mixed (h:=Z ?_)
   exact AF (k1 C) h
  ·intro j p u r h
   rw [CP] at h
   exact AF (k1 q) h
  ·intro j p w r h
   rw [By] at h
   exact AF (k3 Lw v q) h
def RP (n:Nat):=(QE n).1
theorem N4 (a0 r) (h:Ht a0=some r):AC prog 210 [.agg (Core.avs a0)] (.bool r):=by
 unfold Ht at h
 refine acF func210 mixed (h:=Z ?_)
 replace h:=AB h; obtain⟨u,w,h⟩:=h
 refine AK (M1 _ _ w) (Z ?_)
 refine AJ h (fun h=>Z ?_) (fun h=>Z ?_)
 ·replace h:=AB h; obtain⟨y,q,h⟩:=h
  refine AK (RP fuel _ _ _ q) (Z ?_)
  exact AF trivial h
 ·exact AF trivial h
theorem Sq (n:Nat):(∀ (F:Core) (I:(Core→Option Bool)) (C:FuncId) (v:List AV) (j:Still v) (h1:∀ (G:Core) (q:Bool),I G=some q→AC prog C (fnA v [.agg (Core.avs G)]) (.bool q)) (r:Bool),IJ n F I=some r→AC prog 259 [.agg (Core.avs F),.rop [.fn C v] 0] (.bool r))∧
    (∀ (F:Core) (I:(Core→Option Bool)) (C:FuncId) (v:List AV) (j:Still v) (h1:∀ (G:Core) (q:Bool),I G=some q→AC prog C (fnA v [.agg (Core.avs G)]) (.bool q)) (r:Bool),GA n F I=some r→AC prog 241 [.agg (Core.avs F),.fn C v] (.bool r)):=by
 induction n with
 |zero=>exact⟨(fun _ _ _ _ _ _ _ h=>by rw [IJ] at h; cases h),(fun _ _ _ _ _ _ _ h=>by rw [GA] at h; cases h)⟩
 | succ n ih=>
  obtain⟨J,O⟩:=ih
  refine⟨?_,?_⟩
  ·intro F I C v j h1 r h
   rw [IJ] at h
   refine acF func259 mixed (h:=?_)
   try simp only [go_sem,j.k,j.r,j.c,j.p,j.o,j.f]
   replace h:=AB h; obtain⟨u,w,h⟩:=h
   refine AK (O _ _ C v j h1 _ w) ?_
   try simp only [go_sem,j.k,j.r,j.c,j.p,j.o,j.f]
   refine CO ?_
   try simp only [go_sem,j.k,j.r,j.c,j.p,j.o,j.f]
   cases h
   simp only [go_sem,j.k,j.r,j.c,j.p,j.o,j.f]
  ·intro F I C v j h1 r h
   rw [GA] at h
   refine acF func241 mixed (h:=?_)
   try simp only [go_sem,j.k,j.r,j.c,j.p,j.o,j.f]
   replace h:=AB h; obtain⟨u,w,h⟩:=h
   refine AK (h1 _ _ w) ?_
   try simp only [go_sem,j.k,j.r,j.c,j.p,j.o,j.f]
   refine AJ h (fun h=>?_) (fun h=>?_)
   ·try simp only [go_sem,j.k,j.r,j.c,j.p,j.o,j.f]
    refine CO ?_
    try simp only [go_sem,j.k,j.r,j.c,j.p,j.o,j.f]
    cases h
    simp only [go_sem,j.k,j.r,j.c,j.p,j.o,j.f]
   ·try simp only [go_sem,j.k,j.r,j.c,j.p,j.o,j.f]
    replace h:=AB h; obtain⟨y,g,h⟩:=h
    refine AK (Cw _ _ 259 [.agg [],.rop [.fn C v] 0] (Still.of (by simp only [BR,BC,Bool.and_true,Bool.true_and,Bool.and_self,j.p])) (fun G q U=>J G _ C v j h1 q U) _ g) ?_
    try simp only [go_sem,j.k,j.r,j.c,j.p,j.o,j.f]
    refine CO ?_
    try simp only [go_sem,j.k,j.r,j.c,j.p,j.o,j.f]
    cases h
    simp only [go_sem,j.k,j.r,j.c,j.p,j.o,j.f]
def QF (n:Nat):=(Sq n).2
theorem Jm (a0 a1 r) (h:GY a0 a1=some r):AC prog 245 [.int .i64 a0,.rop [.int .i64 a1] 0] (.bool r):=by
 unfold GY at h
 refine acF func245 mixed (h:=Z ?_)
 exact AF trivial h
theorem RQ (a0 a1 r) (h:H7 a0 a1=some r):AC prog 244 [.agg (Core.avs a0),.rop [.int .i64 a1] 0] (.bool r):=by
 unfold H7 at h
 refine acF func244 mixed (h:=Z ?_)
 refine AJ h (fun h=>Z ?_) (fun h=>Z ?_)
 ·refine AJ h (fun h=>Z ?_) (fun h=>Z ?_)
  ·exact AF trivial h
  ·replace h:=AB h; obtain⟨u,w,h⟩:=h
   refine AK (Bm _ _ 245 [.agg [],.rop [.int .i64 a1] 0] (Still.of (by simp only [BR,BC,Bool.and_true,Bool.true_and,Bool.and_self])) (fun p q j=>Jm p _ q j) _ w) (Z ?_)
   exact AF trivial h
 ·replace h:=AB h; obtain⟨u,w,h⟩:=h
  refine AK (Bm _ _ 245 [.agg [],.rop [.int .i64 a1] 0] (Still.of (by simp only [BR,BC,Bool.and_true,Bool.true_and,Bool.and_self])) (fun p q j=>Jm p _ q j) _ w) (Z ?_)
  exact AF trivial h
theorem M2 (a0 a1 r) (h:Gm a0 a1=some r):AC prog 211 [.agg (Core.avs a0),.int .i64 a1] (.bool r):=by
 unfold Gm at h
 refine acF func211 mixed (h:=Z ?_)
 replace h:=AB h; obtain⟨u,w,h⟩:=h
 refine AK (QF fuel _ _ 244 [.agg [],.rop [.int .i64 a1] 0] (Still.of (by simp only [BR,BC,Bool.and_true,Bool.true_and,Bool.and_self])) (fun p q j=>RQ p _ q j) _ w) (Z ?_)
 exact AF trivial h
theorem RR (a0 a1 r) (h:GM a0 a1=some r):AC prog 238 [.agg (Core.avs a0),.rop (Book.avs a1) 0] (.bool r):=by
 unfold GM at h
 refine acF func238 mixed (h:=Z ?_)
 exact AF (k2 N4 M2) h
theorem QG (a0:Book) (u:Bool) (r:Bool) (h:EX a0 u=some r):AR prog f206 [1,0,1] (.bool r) ⟨[(1,.box 1000000500 0),(12,.bool u)],[],[(1000000500,some [.ro (a0.defs.map Core.ds)])]⟩:=by
 unfold EX at h
 refine Am rfl rfl (Z ?_)
 refine AJ h (fun h=>Z ?_) (fun h=>Z ?_)
 ·exact AF trivial h
 ·refine AL ?_
  replace h:=AB h; obtain⟨w,y,h⟩:=h
  refine AK (Cw _ _ 238 [.agg [],.rop [.ro (a0.defs.map Core.ds)] 0] (Still.of (by simp only [BR,BC,Bool.and_true,Bool.true_and,Bool.and_self])) (fun p q j=>RR p _ q j) _ y) (Z ?_)
  exact AF trivial h
theorem VI (a0 r) (h:IK a0=some r):AC prog 206 [.agg (Book.avs a0)] (.bool r):=by
 unfold IK at h
 refine acF func206 mixed (h:=Z ?_)
 exact AF (k1 QG) h
theorem RS (a0:Int) (u:Bool) (r:Int × Int × Int × Int) (h:GN a0 u=some r):AR prog f235 [1,0,1,0,1,1,1,1,1] (.tup [.int .i64 r.1,.int .i64 r.2.1,.int .i64 r.2.2.1,.int .i64 r.2.2.2]) ⟨[(6,.int .i64 a0),(15,.bool u)],[],[]⟩:=by
 unfold GN at h
 exact AF trivial h
theorem RT (a0:Int) (u:Bool) (r:Int × Int × Int × Int) (h:FT a0 u=some r):AR prog f235 [1,0,1,0,1,1,1] (.tup [.int .i64 r.1,.int .i64 r.2.1,.int .i64 r.2.2.1,.int .i64 r.2.2.2]) ⟨[(6,.int .i64 a0),(11,.bool u)],[],[]⟩:=by
 unfold FT at h
 exact AF (k1 RS) h
theorem RU (a0:Int) (u:Bool) (r:Int × Int × Int × Int) (h:FU a0 u=some r):AR prog f235 [1,0,1,0,1] (.tup [.int .i64 r.1,.int .i64 r.2.1,.int .i64 r.2.2.1,.int .i64 r.2.2.2]) ⟨[(6,.int .i64 a0),(7,.bool u)],[],[]⟩:=by
 unfold FU at h
 exact AF (k1 RT) h
theorem Vy (a0 r) (h:JS a0=some r):AC prog 235 [.int .i64 a0] (.tup [.int .i64 r.1,.int .i64 r.2.1,.int .i64 r.2.2.1,.int .i64 r.2.2.2]):=by
 unfold JS at h
 refine acF func235 mixed (h:=Z ?_)
 exact AF (k1 RU) h
theorem Vz (a0 r) (h:JT a0=some r):AC prog 236 [.rop (Core.avs a0) 0] (.bool r):=by
 unfold JT at h
 refine acF func236 mixed (h:=Z ?_)
 exact AF (k1 CA) h
theorem VJ (n:Nat):(∀p j v r,EF n p j v=some r→AC prog 198 [.rop (Core.avs p) 0,.int .i64 j,.int .i64 v] (.int .i64 r))∧
    (∀p j v u r,Bi n p j v u=some r→AR prog f198 [1,1,0,1] (.int .i64 r) ⟨[(0,.rop (Core.avs p) 0),(1,.int .i64 j),(2,.int .i64 v),(57,.bool u)],[],[]⟩)∧
    (∀p j v w r,DB n p j v w=some r→AR prog f198 [1,1,1,0,1,0] (.int .i64 r) ⟨[(0,.rop (Core.avs p) 0),(1,.int .i64 j),(2,.int .i64 v),(11,.int .i64 w)],[],[]⟩)∧
    (∀p j v y q r,DC n p j v y q=some r→AR prog f198 [1,1,1,1,1,0,1,0] (.int .i64 r) ⟨[(0,.rop (Core.avs p) 0),(1,.int .i64 j),(2,.int .i64 v),(12,.int .i64 y),(13,.int .i64 q)],[],[]⟩):=by
 induction n with
 |zero=>exact⟨(fun _ _ _ _ h=>by rw [EF] at h; cases h),(fun _ _ _ _ _ h=>by rw [Bi] at h; cases h),(fun _ _ _ _ _ h=>by rw [DB] at h; cases h),(fun _ _ _ _ _ _ h=>by rw [DC] at h; cases h)⟩
 | succ n ih=>
  obtain⟨G,I,F,C⟩:=ih
  refine⟨?_,?_,?_,?_⟩
  ·intro p j v r h
   rw [EF] at h
   refine acF func198 mixed (h:=Z ?_)
   exact AF (k4 Vy I CA Vz) h
  ·intro p j v u r h
   rw [Bi] at h
   exact AF (k1 F) h
  ·intro p j v w r h
   rw [DB] at h
   exact AF (k3 CA F C) h
  ·intro p j v y q r h
   rw [DC] at h
   exact AF (k2 G C) h
def KG (n:Nat):=(VJ n).1
theorem cn (a0 r) (h:Pn a0=some r):AC prog 195 [.rop (Core.avs a0) 0] (.bool r):=by
 unfold Pn at h
 refine acF func195 mixed (h:=Z ?_)
 replace h:=AB h; obtain⟨u,w,h⟩:=h
 refine AK (KG fuel _ _ _ _ w) (Z ?_)
 exact AF trivial h
theorem RW (u:Bool) (r:Int) (h:FV u=some r):AR prog f205 [1,0,1] (.int .i64 r) ⟨[(20,.bool u)],[],[]⟩:=by
 unfold FV at h
 exact AF trivial h
theorem IA (a0 a1 r) (h:Fm a0 a1=some r):AC prog 205 [.rop (Core.avs a0) 0,.int .i64 a1] (.int .i64 r):=by
 unfold Fm at h
 refine acF func205 mixed (h:=Z ?_)
 exact AF (k1 RW) h
theorem VK (n:Nat):(∀j p r,Fo n j p=some r→AC prog 196 [.rop (Core.avs j) 0,.int .i64 p] (.bool r))∧
    (∀j p u r,DD n j p u=some r→AR prog f196 [1,1,0,1,0] (.bool r) ⟨[(0,.rop (Core.avs j) 0),(1,.int .i64 p),(5,.int .i64 u)],[],[]⟩):=by
 induction n with
 |zero=>exact⟨(fun _ _ _ h=>by rw [Fo] at h; cases h),(fun _ _ _ _ h=>by rw [DD] at h; cases h)⟩
 | succ n ih=>
  obtain⟨v,q⟩:=ih
  refine⟨?_,?_⟩
  ·intro j p r h
   rw [Fo] at h
   refine acF func196 mixed (h:=Z ?_)
   exact AF (k1 q) h
  ·intro j p u r h
   rw [DD] at h
   exact AF (k3 IA v q) h
def V0 (n:Nat):=(VK n).1
theorem M3 (a0 r) (h:Gn a0=some r):AC prog 148 [.rop (Core.avs a0) 0] (.bool r):=by
 unfold Gn at h
 refine acF func148 mixed (h:=Z ?_)
 replace h:=AB h; obtain⟨u,w,h⟩:=h
 refine AK (cn _ _ w) (Z ?_)
 refine AJ h (fun h=>Z ?_) (fun h=>Z ?_)
 ·replace h:=AB h; obtain⟨y,q,h⟩:=h
  refine AK (V0 fuel _ _ _ q) (Z ?_)
  exact AF trivial h
 ·exact AF trivial h
theorem V1 (n:Nat):(∀p j r,GB n p j=some r→AC prog 150 [.rop (Core.avs p) 0,.int .i64 j] (.bool r))∧
    (∀p j u r,Ex n p j u=some r→AR prog f150 [1,0,1] (.bool r) ⟨[(0,.rop (Core.avs p) 0),(1,.int .i64 j),(19,.bool u)],[],[]⟩)∧
    (∀p j w r,D1 n p j w=some r→AR prog f150 [1,1,0,1,0] (.bool r) ⟨[(0,.rop (Core.avs p) 0),(1,.int .i64 j),(5,.int .i64 w)],[],[]⟩)∧
    (∀p j y r,D2 n p j y=some r→AR prog f150 [1,1,1,0,1,0] (.bool r) ⟨[(0,.rop (Core.avs p) 0),(1,.int .i64 j),(6,.int .i64 y)],[],[]⟩):=by
 induction n with
 |zero=>exact⟨(fun _ _ _ h=>by rw [GB] at h; cases h),(fun _ _ _ _ h=>by rw [Ex] at h; cases h),(fun _ _ _ _ h=>by rw [D1] at h; cases h),(fun _ _ _ _ h=>by rw [D2] at h; cases h)⟩
 | succ n ih=>
  obtain⟨C,F,v,q⟩:=ih
  refine⟨?_,?_,?_,?_⟩
  ·intro p j r h
   rw [GB] at h
   refine acF func150 mixed (h:=Z ?_)
   exact AF (k1 F) h
  ·intro p j u r h
   rw [Ex] at h
   exact AF (k1 v) h
  ·intro p j w r h
   rw [D1] at h
   exact AF (k2 v q) h
  ·intro p j y r h
   rw [D2] at h
   exact AF (k2 C q) h
def QH (n:Nat):=(V1 n).1
theorem RX (n:Nat):(∀p u r,C2 n p u=some r→AR prog f147 [1,1,0,1,0] (.bool r) ⟨[(0,.rop [.ro (p.defs.map Core.ds)] 0),(3,.int .i64 u)],[],[]⟩)∧
    (∀p u w r,Ey n p u w=some r→AR prog f147 [1,1,0,1,0,0,1,0,0,1] (.bool r) ⟨[(0,.rop [.ro (p.defs.map Core.ds)] 0),(3,.int .i64 u),(42,.bool w)],[],[]⟩):=by
 induction n with
 |zero=>exact⟨(fun _ _ _ h=>by rw [C2] at h; cases h),(fun _ _ _ _ h=>by rw [Ey] at h; cases h)⟩
 | succ n ih=>
  obtain⟨C,v⟩:=ih
  refine⟨?_,?_⟩
  ·intro p u r h
   rw [C2] at h
   refine Am rfl rfl (Z ?_)
   refine A5 (Z ?_)
   refine AJ h (fun h=>Z ?_) (fun h=>Z ?_)
   ·refine AL ?_
    refine AY [] .fin (by kernel_rfl) (Z ?_)
    replace h:=AB h; obtain⟨y,q,h⟩:=h
    refine AS q (Core.ds_len _) (Z ?_)
    replace h:=AB h; obtain⟨g,j,h⟩:=h
    refine AK (M3 _ _ j) (Z ?_)
    refine AJ h (fun h=>Z ?_) (fun h=>Z ?_)
    ·exact AF (k1 v) h
    ·replace h:=AB h; obtain⟨k,b,h⟩:=h
     refine AS b (Core.ds_len _) (Z ?_)
     replace h:=AB h; obtain⟨d,c,h⟩:=h
     refine AK (QH fuel _ _ _ c) (Z ?_)
     exact AF (k1 v) h
   ·exact AF trivial h
  ·intro p u w r h
   rw [Ey] at h
   exact AF (k1 C) h
def Sr (n:Nat):=(RX n).1
theorem YM (a0 r) (h:Ki a0=some r):AC prog 147 [.rop (Book.avs a0) 0] (.bool r):=by
 unfold Ki at h
 refine acF func147 mixed (h:=Z ?_)
 exact AF (k2 CA Sr) h
theorem aY (a0 a1 r) (h:Mk a0 a1=some r):AC prog 19 [.agg (Book.avs a0),.int .i64 a1] (.int .i64 r):=by
 unfold Mk at h
 refine acF func19 mixed (h:=Z ?_)
 replace h:=AB h; obtain⟨u,w,h⟩:=h
 refine AK (YJ fuel _ _ _ w) (Z ?_)
 exact AF trivial h
theorem J7 (a0 r) (h:G2 a0=some r):AC prog 21 [.agg (Book.avs a0)] (.agg (Book.rv r)):=by
 unfold G2 at h
 refine acF func21 mixed (h:=Z ?_)
 refine AL ?_
 refine AL ?_
 replace h:=AB h; obtain⟨u,w,h⟩:=h
 refine AK (YK fuel _ _ w) (Z ?_)
 exact AF trivial h
theorem aZ (a0 a1 r) (h:Kg a0 a1=some r):AC prog 24 [.agg (Book.avs a0),.agg (Book.avs a1)] (.bool r):=by
 unfold Kg at h
 refine acF func24 mixed (h:=Z ?_)
 replace h:=AB h; obtain⟨u,w,h⟩:=h
 refine AK (YL fuel _ _ _ w) (Z ?_)
 exact AF trivial h
theorem V2 (a0 a1) (z1:Option Nat) (r) (h:Hp a0 a1=some r):AG prog 25 [.agg [.own 1],.int .i64 a1] [(1,⟨List.map Core.ds a0.defs,z1,0,.no⟩)] [] (.int .i64 r.1) [(1,⟨List.map Core.ds r.2,z1,0,.no⟩)] [] :=by
 unfold Hp at h
 refine agF func25 mixed (h:=Z ?_)
 replace h:=AB h; obtain⟨u,w,h⟩:=h
 refine caG ⟨[],[(1,1)],[],[],[],true⟩ (Mz fuel _ _ z1 _ w) (Z ?_)
 exact AF trivial h
end Go.Proofs.YtjnifengdhcojaaGreatDoor.Ab
