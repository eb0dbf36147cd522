/- The functions do what their models say. -/
import Derived.Test.YtjnifengdhcojaaGreatDoorModU
import Derived.Test.YtjnifengdhcojaaGreatDoorTi2
import Derived.Test.YtjnifengdhcojaaGreatDoorWlk
namespace Go.Proofs.YtjnifengdhcojaaGreatDoor.Ab
set_option linter.defProp false
set_option linter.unusedVariables false
set_option linter.unusedSimpArgs false
set_option maxRecDepth 20000
set_option maxHeartbeats 4000000
open Go.RowKit _root_.Go.Proofs.Tryz
theorem Qg (n:Nat):(∀u w y (p:Option Nat) r,Ch n u w y=some r→B2 prog f96 [1,0,1,0] (.int .i64 r.1) [(1,⟨List.map Port.ds r.2,p,0,.no⟩)] [] ⟨[(0,.own 1),(1,.int .i64 w),(5,.int .i64 y)],[(1,some ⟨List.map Port.ds u,p,0,.no⟩)],[]⟩):=by
 induction n with
 |zero=>exact((fun _ _ _ _ _ h=>by rw [Ch] at h; cases h))
 | succ n ih=>
  have v:=ih
  ·intro u w y p r h
   rw [Ch] at h
   refine Ae rfl rfl (Z ?_)
   refine A5 (Z ?_)
   refine AJ h (fun h=>Z ?_) (fun h=>Z ?_)
   ·refine AL ?_
    replace h:=AB h; obtain⟨q,g,h⟩:=h
    refine AS g (Port.ds_len _) (Z ?_)
    replace h:=AB h; obtain⟨j,k,h⟩:=h
    refine CM (Bq g) (Z ?_)
    refine A4 (j.map Port.ds) (by rw [← BE k]; simp only [List.map_set,go_sem,Port.ds_eq]) (Z ?_)
    replace h:=AB h; obtain⟨b,d,h⟩:=h
    refine AS d (Port.ds_len _) (Z ?_)
    replace h:=AB h; obtain⟨c,e,h⟩:=h
    refine CM (Bq d) (Z ?_)
    refine A4 (c.map Port.ds) (by rw [← BE e]; simp only [List.map_set,go_sem,Port.ds_eq]) (Z ?_)
    refine AL ?_
    exact jN (v c (IntKind.i64.wrap ((IntKind.i64.wrap (w+1))+1)) (IntKind.i64.wrap (y+1)) p _ h)
   ·exact AF trivial h
theorem Vb (a0 a1) (z1:Option Nat) (r) (h:IR a0 a1=some r):AG prog 96 [.own 1,.int .i64 a1] [(1,⟨List.map Port.ds a0,z1,0,.no⟩)] [] (.int .i64 r.1) [(1,⟨List.map Port.ds r.2,z1,0,.no⟩)] [] :=by
 unfold IR at h
 refine agF func96 mixed (h:=Z ?_)
 exact bt (Qg fuel a0 a1 0 z1 _ h)
theorem Oz (n:Nat):(∀u w y (C:Option Nat) r,CI n u w y=some r→B2 prog f45 [1,0,1,0] (.int .i64 r.1) [(1,⟨List.map Agent.ds r.2,C,0,.no⟩)] [] ⟨[(0,.own 1),(1,.int .i64 w),(5,.int .i64 y)],[(1,some ⟨List.map Agent.ds u,C,0,.no⟩)],[]⟩):=by
 induction n with
 |zero=>exact((fun _ _ _ _ _ h=>by rw [CI] at h; cases h))
 | succ n ih=>
  have F:=ih
  ·intro u w y C r h
   rw [CI] at h
   refine Ae rfl rfl (Z ?_)
   refine A5 (Z ?_)
   refine AJ h (fun h=>Z ?_) (fun h=>Z ?_)
   ·refine AL ?_
    replace h:=AB h; obtain⟨q,g,h⟩:=h
    refine AS g (Agent.ds_len _) (Z ?_)
    replace h:=AB h; obtain⟨j,k,h⟩:=h
    refine CM (Bq g) (Z ?_)
    refine A4 (j.map Agent.ds) (by rw [← BE k]; simp only [List.map_set,go_sem,Agent.ds_eq]) (Z ?_)
    replace h:=AB h; obtain⟨b,d,h⟩:=h
    refine AS d (Agent.ds_len _) (Z ?_)
    replace h:=AB h; obtain⟨c,e,h⟩:=h
    refine CM (Bq d) (Z ?_)
    refine A4 (c.map Agent.ds) (by rw [← BE e]; simp only [List.map_set,go_sem,Agent.ds_eq]) (Z ?_)
    replace h:=AB h; obtain⟨i,l,h⟩:=h
    refine AS l (Agent.ds_len _) (Z ?_)
    replace h:=AB h; obtain⟨t,s,h⟩:=h
    refine CM (Bq l) (Z ?_)
    refine A4 (t.map Agent.ds) (by rw [← BE s]; simp only [List.map_set,go_sem,Agent.ds_eq]) (Z ?_)
    replace h:=AB h; obtain⟨o,z,h⟩:=h
    refine AS z (Agent.ds_len _) (Z ?_)
    refine CM (Bq z) (Z ?_)
    replace h:=AB h; obtain⟨u1,U,h⟩:=h
    replace h:=AB h; obtain⟨J,Y,h⟩:=h
    refine caG ⟨[(3000176096,.sub 1 0 [(5,Int.toNat y,3)],none)],[(1,3000176096)],[],[],[],true⟩ (Ic _ _ none _ U) (Z ?_)
    refine CM (Xo (r:=List.map AD o.data) (Bq z) (Agent.ds_len _) (by simp only [go_sem,Agent.ds_eq])) (Z ?_)
    refine A4 ((t.map Agent.ds).set (Int.toNat y) [.int .i64 o.kind,.int .i64 o.level,.int .i64 o.value,.gone,.sl (o.ports.map Port.ds)]) ((Mf (Bq z) (d':=.sl (o.data.map AD)) (by simp only [go_sem,Agent.ds_eq])).trans (by simp only [go_sem,Agent.ds_eq])) (Z ?_)
    refine Bu (Xp (Me (Bq z)) rfl rfl) (Z ?_)
    refine A4 (J.map Agent.ds) (((Mf (Me (Bq z)) (d':=.gone) rfl).trans (List.set_set ..)).trans (by rw [← BE Y]; simp only [List.map_set,go_sem,Agent.ds_eq])) (Z ?_)
    refine AL ?_
    replace h:=AB h; obtain⟨v,p,h⟩:=h
    refine AS p (Agent.ds_len _) (Z ?_)
    refine CM (Bq p) (Z ?_)
    replace h:=AB h; obtain⟨O,W,h⟩:=h
    replace h:=AB h; obtain⟨I,G,h⟩:=h
    refine caG ⟨[(3000192096,.sub 1 0 [(5,Int.toNat y,4)],none)],[(1,3000192096)],[],[],[],true⟩ (Vb _ _ none _ W) (Z ?_)
    refine CM (Xo (r:=List.map Port.ds v.ports) (Bq p) (Agent.ds_len _) (by simp only [go_sem,Agent.ds_eq])) (Z ?_)
    refine A4 ((J.map Agent.ds).set (Int.toNat y) [.int .i64 v.kind,.int .i64 v.level,.int .i64 v.value,.sl (v.data.map AD),.gone]) ((Mf (Bq p) (d':=.sl (v.ports.map Port.ds)) (by simp only [go_sem,Agent.ds_eq])).trans (by simp only [go_sem,Agent.ds_eq])) (Z ?_)
    refine Bu (Xp (Me (Bq p)) rfl rfl) (Z ?_)
    refine A4 (I.map Agent.ds) (((Mf (Me (Bq p)) (d':=.gone) rfl).trans (List.set_set ..)).trans (by rw [← BE G]; simp only [List.map_set,go_sem,Agent.ds_eq])) (Z ?_)
    refine AL ?_
    exact jN (F I O.1 (IntKind.i64.wrap (y+1)) C _ h)
   ·exact AF trivial h
theorem TK (a0 a1) (z1:Option Nat) (r) (h:HU a0 a1=some r):AG prog 45 [.own 1,.int .i64 a1] [(1,⟨List.map Agent.ds a0,z1,0,.no⟩)] [] (.int .i64 r.1) [(1,⟨List.map Agent.ds r.2,z1,0,.no⟩)] [] :=by
 unfold HU at h
 refine agF func45 mixed (h:=Z ?_)
 exact bt (Oz fuel a0 a1 0 z1 _ h)
theorem Yb (a0 a1) (z1:Option Nat) (r) (h:Iz a0 a1=some r):AG prog 16 [.agg [.own 1],.int .i64 a1] [(1,⟨List.map Agent.ds a0.agents,z1,0,.no⟩)] [] (.int .i64 r.1) [(1,⟨List.map Agent.ds r.2,z1,0,.no⟩)] [] :=by
 unfold Iz at h
 refine agF func16 mixed (h:=Z ?_)
 replace h:=AB h; obtain⟨u,w,h⟩:=h
 refine caG ⟨[],[(1,1)],[],[],[],true⟩ (TK _ _ z1 _ w) (Z ?_)
 exact AF trivial h
theorem Ye (a0 a1 r) (h:Kt a0 a1=some r):AC prog 113 [.ro (a0.map Port.ds),.int .i64 a1] (.int .i64 r):=by
 unfold Kt at h
 refine acF func113 mixed (h:=Z ?_)
 exact AF trivial h
theorem Yf (a0 a1 r) (h:I6 a0 a1=some r):AC prog 55 [.agg (Agent.avs a0),.int .i64 a1] (.int .i64 r):=by
 unfold I6 at h
 refine acF func55 mixed (h:=Z ?_)
 exact AF (k2 Ny Ye) h
theorem Rs (n:Nat):(∀j u w r,EM n j u w=some r→AR prog f28 [1,1,1,0,1,0] (.int .i64 r) ⟨[(0,.ro (j.map Agent.ds)),(1,.int .i64 u),(5,.int .i64 w)],[],[]⟩):=by
 induction n with
 |zero=>exact((fun _ _ _ _ h=>by rw [EM] at h; cases h))
 | succ n ih=>
  have p:=ih
  ·intro j u w r h
   rw [EM] at h
   exact AF (k2 Yf p) h
theorem WE (a0 a1 r) (h:Jb a0 a1=some r):AC prog 28 [.ro (a0.map Agent.ds),.int .i64 a1] (.int .i64 r):=by
 unfold Jb at h
 refine acF func28 mixed (h:=Z ?_)
 exact AF (k1 Rs) h
theorem ct (a0 a1 r) (h:Pq a0 a1=some r):AC prog 6 [.agg (Net.avs a0),.int .i64 a1] (.int .i64 r):=by
 unfold Pq at h
 refine acF func6 mixed (h:=Z ?_)
 exact AF (k1 WE) h
theorem am (a0 r) (h:Ku a0=some r):AC prog 179 [.agg (Port.avs a0)] (.agg (Port.rv r)):=by
 unfold Ku at h
 refine acF func179 mixed (h:=Z ?_)
 exact AF trivial h
theorem TL (n:Nat):(∀p u w r,E6 n p u w=some r→AR prog f127 [1,1,0,1,0] (.ow (some 2) (r.map Port.ds)) ⟨[(0,.ro (p.map Port.ds)),(3,.own 1000001000),(4,.int .i64 w)],[(1000001000,some ⟨List.map Port.ds u,some 2,0,.no⟩)],[]⟩):=by
 induction n with
 |zero=>exact((fun _ _ _ _ h=>by rw [E6] at h; cases h))
 | succ n ih=>
  have v:=ih
  ·intro p u w r h
   rw [E6] at h
   refine Am rfl rfl (Z ?_)
   refine A5 (Z ?_)
   refine AJ h (fun h=>Z ?_) (fun h=>Z ?_)
   ·refine AL ?_
    replace h:=AB h; obtain⟨y,q,h⟩:=h
    refine AS q (Port.ds_len _) (Z ?_)
    replace h:=AB h; obtain⟨g,j,h⟩:=h
    refine AK (am _ _ j) (Z ?_)
    replace h:=AB h; obtain⟨k,b,h⟩:=h
    refine AS b (Port.ds_len _) (Z ?_)
    replace h:=AB h; obtain⟨d,c,h⟩:=h
    refine CM (Bq b) (Z ?_)
    refine A4 (d.map Port.ds) (by rw [← BE c]; simp only [List.map_set,go_sem,Port.ds_eq]) (Z ?_)
    exact AF (k1 v) h
   ·exact AF trivial h
theorem Yg (a0 r) (h:Kv a0=some r):AC prog 127 [.ro (a0.map Port.ds)] (.ow (some 2) (r.map Port.ds)):=by
 unfold Kv at h
 refine acF func127 mixed (h:=Z ?_)
 replace h:=AB h; obtain⟨u,w,h⟩:=h
 have v:=Mg w
 obtain⟨q,p,j⟩:=v
 refine Bu (by refine⟨?_,?_,?_⟩ <;> omega) (Z ?_)
 refine Bp .no (Z ?_)
 refine A4 (u.map Port.ds) (by rw [← j]; simp only [List.map_replicate,go_sem,Port.ds_eq]) (Z ?_)
 exact AF (k1 TL) h
theorem Yh (a0 r) (h:I7 a0=some r):AC prog 75 [.agg (Agent.avs a0)] (.agg (Agent.rv r)):=by
 unfold I7 at h
 refine acF func75 mixed (h:=Z ?_)
 exact AF (k2 Nz Yg) h
theorem Rt (n:Nat):(∀p u w r,EN n p u w=some r→AR prog f36 [1,1,0,1,0] (.ow (some 5) (r.map Agent.ds)) ⟨[(0,.ro (p.map Agent.ds)),(3,.own 1000001000),(4,.int .i64 w)],[(1000001000,some ⟨List.map Agent.ds u,some 5,0,.no⟩)],[]⟩):=by
 induction n with
 |zero=>exact((fun _ _ _ _ h=>by rw [EN] at h; cases h))
 | succ n ih=>
  have v:=ih
  ·intro p u w r h
   rw [EN] at h
   refine Am rfl rfl (Z ?_)
   refine A5 (Z ?_)
   refine AJ h (fun h=>Z ?_) (fun h=>Z ?_)
   ·refine AL ?_
    replace h:=AB h; obtain⟨y,q,h⟩:=h
    refine AS q (Agent.ds_len _) (Z ?_)
    replace h:=AB h; obtain⟨g,j,h⟩:=h
    refine AK (Yh _ _ j) (Z ?_)
    replace h:=AB h; obtain⟨k,b,h⟩:=h
    refine AS b (Agent.ds_len _) (Z ?_)
    replace h:=AB h; obtain⟨d,c,h⟩:=h
    refine CM (Bq b) (Z ?_)
    refine A4 (d.map Agent.ds) (by rw [← BE c]; simp only [List.map_set,go_sem,Agent.ds_eq]) (Z ?_)
    exact AF (k1 v) h
   ·exact AF trivial h
theorem WF (a0 r) (h:Jc a0=some r):AC prog 36 [.ro (a0.map Agent.ds)] (.ow (some 5) (r.map Agent.ds)):=by
 unfold Jc at h
 refine acF func36 mixed (h:=Z ?_)
 replace h:=AB h; obtain⟨u,w,h⟩:=h
 have v:=Mg w
 obtain⟨q,p,j⟩:=v
 refine Bu (by refine⟨?_,?_,?_⟩ <;> omega) (Z ?_)
 refine Bp .no (Z ?_)
 refine A4 (u.map Agent.ds) (by rw [← j]; simp only [List.map_replicate,go_sem,Agent.ds_eq]) (Z ?_)
 exact AF (k1 Rt) h
theorem Lr (a0 r) (h:Ip a0=some r):AC prog 9 [.agg (Net.avs a0)] (.agg (Net.rv r)):=by
 unfold Ip at h
 refine acF func9 mixed (h:=Z ?_)
 exact AF (k1 WF) h
theorem an (a0 a1 r) (h:Kw a0 a1=some r):AC prog 194 [.agg (Port.avs a0),.agg (Port.avs a1)] (.bool r):=by
 unfold Kw at h
 refine acF func194 mixed (h:=Z ?_)
 exact AF trivial h
theorem TM (n:Nat):(∀j p u r,E7 n j p u=some r→AR prog f146 [1,1,0,1,0] (.bool r) ⟨[(0,.ro (j.map Port.ds)),(1,.ro (p.map Port.ds)),(5,.int .i64 u)],[],[]⟩):=by
 induction n with
 |zero=>exact((fun _ _ _ _ h=>by rw [E7] at h; cases h))
 | succ n ih=>
  have q:=ih
  ·intro j p u r h
   rw [E7] at h
   exact AF (k2 an q) h
theorem Yi (a0 a1 r) (h:Kx a0 a1=some r):AC prog 146 [.ro (a0.map Port.ds),.ro (a1.map Port.ds)] (.bool r):=by
 unfold Kx at h
 refine acF func146 mixed (h:=Z ?_)
 exact AF (k1 TM) h
theorem Yj (a0 a1 r) (h:I8 a0 a1=some r):AC prog 95 [.agg (Agent.avs a0),.agg (Agent.avs a1)] (.bool r):=by
 unfold I8 at h
 refine acF func95 mixed (h:=Z ?_)
 exact AF (k2 N0 Yi) h
theorem Ru (n:Nat):(∀j p u r,EO n j p u=some r→AR prog f44 [1,1,0,1,0] (.bool r) ⟨[(0,.ro (j.map Agent.ds)),(1,.ro (p.map Agent.ds)),(5,.int .i64 u)],[],[]⟩):=by
 induction n with
 |zero=>exact((fun _ _ _ _ h=>by rw [EO] at h; cases h))
 | succ n ih=>
  have q:=ih
  ·intro j p u r h
   rw [EO] at h
   exact AF (k2 Yj q) h
theorem WG (a0 a1 r) (h:Jd a0 a1=some r):AC prog 44 [.ro (a0.map Agent.ds),.ro (a1.map Agent.ds)] (.bool r):=by
 unfold Jd at h
 refine acF func44 mixed (h:=Z ?_)
 exact AF (k1 Ru) h
theorem cr (a0 a1 r) (h:NQ a0 a1=some r):AC prog 14 [.agg (Net.avs a0),.agg (Net.avs a1)] (.bool r):=by
 unfold NQ at h
 refine acF func14 mixed (h:=Z ?_)
 exact AF (k1 WG) h
theorem KN (n:Nat):(∀ (C:List Int) (u:Int) (I:(Int→Option Bool)) (G:FuncId) (F:List AV) (v:Still F) (h1:∀ (y0:Int) (q:Bool),I y0=some q→AC prog G (fnA F [.int .i64 y0]) (.bool q)) (r:Int),BK n C u I=some r→AR prog f161 [1,0,1,0] (.int .i64 r) ⟨[(0,.ro (C.map AD)),(1,.fn G F),(7,.int .i64 (C.length:Int)),(8,.int .i64 u)],[],[]⟩):=by
 induction n with
 |zero=>exact((fun _ _ _ _ _ _ _ _ h=>by rw [BK] at h; cases h))
 | succ n ih=>
  have J:=ih
  ·intro C u I G F v h1 r h
   rw [BK] at h
   refine Am rfl rfl ?_
   try simp only [go_sem,v.k,v.r,v.c,v.p,v.o,v.f]
   refine A5 ?_
   try simp only [go_sem,v.k,v.r,v.c,v.p,v.o,v.f]
   refine AJ h (fun h=>?_) (fun h=>?_)
   ·try simp only [go_sem,v.k,v.r,v.c,v.p,v.o,v.f]
    refine CO ?_
    try simp only [go_sem,v.k,v.r,v.c,v.p,v.o,v.f]
    replace h:=AB h; obtain⟨w,y,h⟩:=h
    refine AS y rfl ?_
    try simp only [go_sem,v.k,v.r,v.c,v.p,v.o,v.f]
    replace h:=AB h; obtain⟨g,j,h⟩:=h
    refine AK (h1 _ _ j) ?_
    try simp only [go_sem,v.k,v.r,v.c,v.p,v.o,v.f]
    refine CO ?_
    try simp only [go_sem,v.k,v.r,v.c,v.p,v.o,v.f]
    refine AJ h (fun h=>?_) (fun h=>?_)
    ·try simp only [go_sem,v.k,v.r,v.c,v.p,v.o,v.f]
     cases h
     simp only [go_sem,v.k,v.r,v.c,v.p,v.o,v.f]
    ·try simp only [go_sem,v.k,v.r,v.c,v.p,v.o,v.f]
     refine CO ?_
     try simp only [go_sem,v.k,v.r,v.c,v.p,v.o,v.f]
     refine W2 (CS rfl rfl (J C (IntKind.i64.wrap (u+1)) I G F v h1 _ h):) (.one ⟨_,.done _,[],[],?_⟩)
     try simp only [go_sem,v.k,v.r,v.c,v.p,v.o,v.f]
   ·try simp only [go_sem,v.k,v.r,v.c,v.p,v.o,v.f]
    refine CO ?_
    try simp only [go_sem,v.k,v.r,v.c,v.p,v.o,v.f]
    cases h
    simp only [go_sem,v.k,v.r,v.c,v.p,v.o,v.f]
theorem MI (a0:List Int) (f1:(Int→Option Bool)) (g1:FuncId) (c1:List AV) (s1:Still c1) (h1:∀ (y0:Int) (q:Bool),f1 y0=some q→AC prog g1 (fnA c1 [.int .i64 y0]) (.bool q)) (r:Int) (h:E8 a0 f1=some r):AC prog 161 [.ro (a0.map AD),.fn g1 c1] (.int .i64 r):=by
 unfold E8 at h
 refine acF func161 mixed (h:=?_)
 try simp only [go_sem,s1.k,s1.r,s1.c,s1.p,s1.o,s1.f]
 refine CL (CS rfl rfl (KN fuel a0 0 f1 g1 c1 s1 h1 _ h):) (.one ⟨_,.done _,[],[],?_⟩)
 try simp only [go_sem,s1.k,s1.r,s1.c,s1.p,s1.o,s1.f]
theorem Bm (a0:List Int) (f1:(Int→Option Bool)) (g1:FuncId) (c1:List AV) (s1:Still c1) (h1:∀ (y0:Int) (q:Bool),f1 y0=some q→AC prog g1 (fnA c1 [.int .i64 y0]) (.bool q)) (r:Bool) (h:AW a0 f1=some r):AC prog 107 [.ro (a0.map AD),.fn g1 c1] (.bool r):=by
 unfold AW at h
 refine acF func107 mixed (h:=?_)
 try simp only [go_sem,s1.k,s1.r,s1.c,s1.p,s1.o,s1.f]
 replace h:=AB h; obtain⟨u,w,h⟩:=h
 refine AK (MI _ _ g1 c1 s1 h1 _ w) ?_
 try simp only [go_sem,s1.k,s1.r,s1.c,s1.p,s1.o,s1.f]
 refine CO ?_
 try simp only [go_sem,s1.k,s1.r,s1.c,s1.p,s1.o,s1.f]
 cases h
 simp only [go_sem,s1.k,s1.r,s1.c,s1.p,s1.o,s1.f]
theorem NB (a0 r) (h:Je a0=some r):AC prog 234 [.int .i64 a0] (.bool r):=by
 unfold Je at h
 refine acF func234 mixed (h:=Z ?_)
 exact AF trivial h
theorem TN (a0:Int) (u:Bool) (r:Int) (h:E9 a0 u=some r):AR prog f223 [1,0,0,1,1,1] (.int .i64 r) ⟨[(0,.int .i64 a0),(18,.bool u)],[],[]⟩:=by
 unfold E9 at h
 refine Am rfl rfl (Z ?_)
 refine AJ h (fun h=>Z ?_) (fun h=>Z ?_)
 ·exact AF trivial h
 ·refine AL ?_
  replace h:=AB h; obtain⟨w,y,h⟩:=h
  refine CM y (Z ?_)
  exact AF trivial h
theorem TO (a0:Int) (a1:Int) (u:Bool) (r:Int) (h:FA a0 a1 u=some r):AR prog f223 [1,0,0,1] (.int .i64 r) ⟨[(0,.int .i64 a0),(1,.int .i64 a1),(5,.bool u)],[],[]⟩:=by
 unfold FA at h
 exact AF (k2 NB TN) h
theorem Yk (a0 a1 r) (h:I9 a0 a1=some r):AC prog 223 [.int .i64 a0,.int .i64 a1] (.int .i64 r):=by
 unfold I9 at h
 refine acF func223 mixed (h:=Z ?_)
 exact AF (k1 TO) h
theorem WH (a0 a1 r) (h:Jf a0 a1=some r):AC prog 224 [.int .i64 a0,.int .i64 a1] (.int .i64 r):=by
 unfold Jf at h
 refine acF func224 mixed (h:=Z ?_)
 exact AF trivial h
theorem N9 (a0 r) (h:Fu a0=some r):AC prog 192 [.int .i64 a0] (.bool r):=by
 unfold Fu at h
 refine acF func192 mixed (h:=Z ?_)
 exact AF (k1 NB) h
theorem Qd (a0 r) (h:Hz a0=some r):AC prog 253 [.int .i64 a0] (.bool r):=by
 unfold Hz at h
 refine acF func253 mixed (h:=Z ?_)
 exact AF trivial h
theorem Jn (a0 a1 r) (h:D7 a0 a1=some r):AC prog 225 [.int .i64 a0,.int .i64 a1] (.bool r):=by
 unfold D7 at h
 refine acF func225 mixed (h:=Z ?_)
 exact AF (k3 NB N9 Qd) h
theorem GZ (a0 r) (h:D0 a0=some r):AC prog 227 [.int .i64 a0] (.bool r):=by
 unfold D0 at h
 refine acF func227 mixed (h:=Z ?_)
 exact AF trivial h
theorem Qh (a0 r) (h:Fy a0=some r):AC prog 226 [.int .i64 a0] (.bool r):=by
 unfold Fy at h
 refine acF func226 mixed (h:=Z ?_)
 exact AF (k1 GZ) h
theorem VG (a0 r) (h:LS a0=some r):AC prog 228 [.int .i64 a0] (.bool r):=by
 unfold LS at h
 refine acF func228 mixed (h:=Z ?_)
 exact AF trivial h
theorem Lv (a0 r) (h:Ew a0=some r):AC prog 229 [.int .i64 a0] (.bool r):=by
 unfold Ew at h
 refine acF func229 mixed (h:=Z ?_)
 exact AF trivial h
theorem O0 (u:Bool) (w:Bool) (r:Bool) (h:Aj u w=some r):AR prog f181 [1,1,1,1,1] (.bool r) ⟨[(3,.bool u),(4,.bool w)],[],[]⟩:=by
 unfold Aj at h
 exact AF trivial h
theorem O2 (a0:Agent) (u:Bool) (r:Bool) (h:CJ a0 u=some r):AR prog f181 [1,0,1] (.bool r) ⟨[(1,.box 1000000500 0),(32,.bool u)],[],[(1000000500,some (Agent.avs a0))]⟩:=by
 unfold CJ at h
 refine Am rfl rfl (Z ?_)
 refine AJ h (fun h=>Z ?_) (fun h=>Z ?_)
 ·exact AF trivial h
 ·refine AL ?_
  refine AY [] .fin (by kernel_rfl) (Z ?_)
  refine AL ?_
  replace h:=AB h; obtain⟨w,y,h⟩:=h
  refine AK (Bm _ _ 226 [] (Still.of rfl) (fun p q j=>Qh p  q j) _ y) (Z ?_)
  exact AF (k4 VG O0 Lv GZ) h
theorem TP (a0 r) (h:HV a0=some r):AC prog 181 [.agg (Agent.avs a0)] (.bool r):=by
 unfold HV at h
 refine acF func181 mixed (h:=Z ?_)
 exact AF (k4 O2 WH Yk Jn) h
theorem O3 (n:Nat):(∀j u r,B8 n j u=some r→AR prog f130 [1,1,0,1,0] (.bool r) ⟨[(13,.ro (j.map Agent.ds)),(14,.int .i64 (j.length:Int)),(15,.int .i64 u)],[],[]⟩)∧
    (∀j u w r,Dj n j u w=some r→AR prog f130 [1,1,0,1,0,0,1,1,0,0,1,1] (.bool r) ⟨[(13,.ro (j.map Agent.ds)),(14,.int .i64 (j.length:Int)),(15,.int .i64 u),(30,.bool w)],[],[]⟩):=by
 induction n with
 |zero=>exact⟨(fun _ _ _ h=>by rw [B8] at h; cases h),(fun _ _ _ _ h=>by rw [Dj] at h; cases h)⟩
 | succ n ih=>
  obtain⟨q,p⟩:=ih
  refine⟨?_,?_⟩
  ·intro j u r h
   rw [B8] at h
   exact AF (k2 TP p) h
  ·intro j u w r h
   rw [Dj] at h
   exact AF (k1 q) h
def Qi (n:Nat):=(O3 n).1
theorem Qj (a0:List Agent) (u:Bool) (r:Bool) (h:Fz a0 u=some r):AR prog f130 [1,0,1] (.bool r) ⟨[(0,.ro (a0.map Agent.ds)),(12,.bool u)],[],[]⟩:=by
 unfold Fz at h
 exact AF (k1 Qi) h
theorem Vc (a0 r) (h:IS a0=some r):AC prog 130 [.ro (a0.map Agent.ds)] (.bool r):=by
 unfold IS at h
 refine acF func130 mixed (h:=Z ?_)
 exact AF (k1 Qj) h
theorem If (n:Nat):(∀ (C:List Port) (u:Int) (I:(Port→Option Bool)) (G:FuncId) (F:List AV) (v:Still F) (h1:∀ (y0:Port) (q:Bool),I y0=some q→AC prog G (fnA F [.agg (Port.avs y0)]) (.bool q)) (r:Int),Au n C u I=some r→AR prog f182 [1,0,1,0] (.int .i64 r) ⟨[(0,.ro (C.map Port.ds)),(1,.fn G F),(7,.int .i64 (C.length:Int)),(8,.int .i64 u)],[],[]⟩):=by
 induction n with
 |zero=>exact((fun _ _ _ _ _ _ _ _ h=>by rw [Au] at h; cases h))
 | succ n ih=>
  have J:=ih
  ·intro C u I G F v h1 r h
   rw [Au] at h
   refine Am rfl rfl ?_
   try simp only [go_sem,v.k,v.r,v.c,v.p,v.o,v.f]
   refine A5 ?_
   try simp only [go_sem,v.k,v.r,v.c,v.p,v.o,v.f]
   refine AJ h (fun h=>?_) (fun h=>?_)
   ·try simp only [go_sem,v.k,v.r,v.c,v.p,v.o,v.f]
    refine CO ?_
    try simp only [go_sem,v.k,v.r,v.c,v.p,v.o,v.f]
    replace h:=AB h; obtain⟨w,y,h⟩:=h
    refine AS y (Port.ds_len _) ?_
    try simp only [go_sem,v.k,v.r,v.c,v.p,v.o,v.f]
    replace h:=AB h; obtain⟨g,j,h⟩:=h
    refine AK (h1 _ _ j) ?_
    try simp only [go_sem,v.k,v.r,v.c,v.p,v.o,v.f]
    refine CO ?_
    try simp only [go_sem,v.k,v.r,v.c,v.p,v.o,v.f]
    refine AJ h (fun h=>?_) (fun h=>?_)
    ·try simp only [go_sem,v.k,v.r,v.c,v.p,v.o,v.f]
     cases h
     simp only [go_sem,v.k,v.r,v.c,v.p,v.o,v.f]
    ·try simp only [go_sem,v.k,v.r,v.c,v.p,v.o,v.f]
     refine CO ?_
     try simp only [go_sem,v.k,v.r,v.c,v.p,v.o,v.f]
     refine W2 (CS rfl rfl (J C (IntKind.i64.wrap (u+1)) I G F v h1 _ h):) (.one ⟨_,.done _,[],[],?_⟩)
     try simp only [go_sem,v.k,v.r,v.c,v.p,v.o,v.f]
   ·try simp only [go_sem,v.k,v.r,v.c,v.p,v.o,v.f]
    refine CO ?_
    try simp only [go_sem,v.k,v.r,v.c,v.p,v.o,v.f]
    cases h
    simp only [go_sem,v.k,v.r,v.c,v.p,v.o,v.f]
theorem Jv (a0:List Port) (f1:(Port→Option Bool)) (g1:FuncId) (c1:List AV) (s1:Still c1) (h1:∀ (y0:Port) (q:Bool),f1 y0=some q→AC prog g1 (fnA c1 [.agg (Port.avs y0)]) (.bool q)) (r:Int) (h:C6 a0 f1=some r):AC prog 182 [.ro (a0.map Port.ds),.fn g1 c1] (.int .i64 r):=by
 unfold C6 at h
 refine acF func182 mixed (h:=?_)
 try simp only [go_sem,s1.k,s1.r,s1.c,s1.p,s1.o,s1.f]
 refine CL (CS rfl rfl (If fuel a0 0 f1 g1 c1 s1 h1 _ h):) (.one ⟨_,.done _,[],[],?_⟩)
 try simp only [go_sem,s1.k,s1.r,s1.c,s1.p,s1.o,s1.f]
theorem Ig (a0:List Port) (f1:(Port→Option Bool)) (g1:FuncId) (c1:List AV) (s1:Still c1) (h1:∀ (y0:Port) (q:Bool),f1 y0=some q→AC prog g1 (fnA c1 [.agg (Port.avs y0)]) (.bool q)) (r:Bool) (h:Ba a0 f1=some r):AC prog 131 [.ro (a0.map Port.ds),.fn g1 c1] (.bool r):=by
 unfold Ba at h
 refine acF func131 mixed (h:=?_)
 try simp only [go_sem,s1.k,s1.r,s1.c,s1.p,s1.o,s1.f]
 replace h:=AB h; obtain⟨u,w,h⟩:=h
 refine AK (Jv _ _ g1 c1 s1 h1 _ w) ?_
 try simp only [go_sem,s1.k,s1.r,s1.c,s1.p,s1.o,s1.f]
 refine CO ?_
 try simp only [go_sem,s1.k,s1.r,s1.c,s1.p,s1.o,s1.f]
 cases h
 simp only [go_sem,s1.k,s1.r,s1.c,s1.p,s1.o,s1.f]
theorem O4 (n:Nat):(∀p u w r,Bl n p u w=some r→AR prog f132 [1,1,0,1,0] (.ow (some 2) (r.map Port.ds)) ⟨[(3,.own 1000000000),(10,.ro (p.agents.map Agent.ds)),(11,.int .i64 (p.agents.length:Int)),(12,.int .i64 w)],[(1000000000,some ⟨List.map Port.ds u,some 2,0,.no⟩)],[]⟩)∧
    (∀p w y q g r,Ci n p w y q g=some r→AR prog f132 [1,1,0,1,0,0,1,1,0,0,1,1,0] (.ow (some 2) (r.map Port.ds)) ⟨[(3,.own 1000004000),(4,.int .i64 w),(10,.ro (p.agents.map Agent.ds)),(11,.int .i64 (p.agents.length:Int)),(12,.int .i64 w),(19,.int .i64 (y.ports.length:Int)),(20,.int .i64 g)],[(1000004000,some ⟨List.map Port.ds q,some 2,0,.no⟩)],[]⟩):=by
 induction n with
 |zero=>exact⟨(fun _ _ _ _ h=>by rw [Bl] at h; cases h),(fun _ _ _ _ _ _ h=>by rw [Ci] at h; cases h)⟩
 | succ n ih=>
  obtain⟨F,C⟩:=ih
  refine⟨?_,?_⟩
  ·intro p u w r h
   rw [Bl] at h
   exact AF (k1 C) h
  ·intro p w y q g r h
   rw [Ci] at h
   refine Am rfl rfl (Z ?_)
   refine A5 (Z ?_)
   refine AJ h (fun h=>Z ?_) (fun h=>Z ?_)
   ·refine AL ?_
    replace h:=AB h; obtain⟨k,b,h⟩:=h
    have G:=Ad b
    obtain⟨v,j⟩:=G
    refine Bp .no (Z ?_)
    refine CN (Z ?_)
    refine A4 (k.map Port.ds) (by rw [← j]; simp only [List.map_append,List.map_cons,List.map_nil,List.nil_append,List.append_nil,go_sem,Port.ds_eq]) (Z ?_)
    exact AF (k1 C) h
   ·exact AF (k1 F) h
def Qk (n:Nat):=(O4 n).1
theorem Vd (a0 r) (h:IT a0=some r):AC prog 132 [.rop (Net.avs a0) 0] (.ow (some 2) (r.map Port.ds)):=by
 unfold IT at h
 refine acF func132 mixed (h:=Z ?_)
 refine CL (CS rfl rfl (Qk fuel a0 [] 0 _ h):) (.one ⟨_,.slot 3 2000000000 (some 2) .no (by simp only [go_sem]) (by simp only [go_sem]) (.done _),[(1000000000,2000000000)],[],?_⟩)
 simp only [go_sem]
 all_goals try rfl
theorem GW (a0 a1 r) (h:Cv a0 a1=some r):AC prog 134 [.rop (Net.avs a0) 0,.agg (Port.avs a1)] (.agg (Port.rv r)):=by
 unfold Cv at h
 refine acF func134 mixed (h:=Z ?_)
 refine AL ?_
 refine AY [false,false,false,false,false,false,false,false,false,false,false,false,false,true] (Tr.sq [13] .fin) (by kernel_rfl) (Z ?_)
 exact AF trivial h
theorem Yl (a0 a1 r) (h:Ky a0 a1=some r):AC prog 135 [.ro (a0.map Agent.ds),.agg (Port.avs a1)] (.bool r):=by
 unfold Ky at h
 refine acF func135 mixed (h:=Z ?_)
 exact AF trivial h
theorem TQ (a0 a1 r) (h:HX a0 a1=some r):AC prog 133 [.agg (Port.avs a0),.rop (Net.avs a1) 0] (.bool r):=by
 unfold HX at h
 refine acF func133 mixed (h:=Z ?_)
 exact AF (k2 GW Yl) h
theorem KJ (a0 r) (h:EJ a0=some r):AC prog 77 [.agg (Net.avs a0)] (.bool r):=by
 unfold EJ at h
 refine acF func77 mixed (h:=Z ?_)
 replace h:=AB h; obtain⟨u,w,h⟩:=h
 refine AK (Vc _ _ w) (Z ?_)
 refine AL ?_
 refine AJ h (fun h=>Z ?_) (fun h=>Z ?_)
 ·exact AF trivial h
 ·refine AL ?_
  replace h:=AB h; obtain⟨y,g,h⟩:=h
  refine AK (Vd _ _ g) (Z ?_)
  replace h:=AB h; obtain⟨j,k,h⟩:=h
  refine AK (Ig _ _ 133 [.agg [],.rop [.ro (a0.agents.map Agent.ds)] 0] (Still.of (by simp only [BR,BC,Bool.and_true,Bool.true_and,Bool.and_self])) (fun v q p=>TQ v _ q p) _ k) (Z ?_)
  exact AF trivial h
theorem CA (a0 a1 a2 r) (h:BN a0 a1 a2=some r):AC prog 59 [.int .i64 a0,.int .i64 a1,.int .i64 a2] (.bool r):=by
 unfold BN at h
 refine acF func59 mixed (h:=Z ?_)
 exact AF trivial h
theorem Ve (a0 r) (h:IU a0=some r):AC prog 120 [.rop (Agent.avs a0) 0] (.int .i64 r):=by
 unfold IU at h
 refine acF func120 mixed (h:=Z ?_)
 exact AF trivial h
theorem TR (u:Bool) (r:Int) (h:FB u=some r):AR prog f217 [1,1,1,0,1,0,1,1,1,1,1] (.int .i64 r) ⟨[(23,.bool u)],[],[]⟩:=by
 unfold FB at h
 exact AF trivial h
theorem TS (a0:Int) (u:Bool) (r:Int) (h:GD a0 u=some r):AR prog f217 [1,1,1,0,1,0,1,1,1] (.int .i64 r) ⟨[(13,.int .i64 a0),(19,.bool u)],[],[]⟩:=by
 unfold GD at h
 exact AF (k1 TR) h
theorem TT (a0:Int) (u:Bool) (r:Int) (h:FC a0 u=some r):AR prog f217 [1,1,1,0,1,0,1] (.int .i64 r) ⟨[(13,.int .i64 a0),(14,.bool u)],[],[]⟩:=by
 unfold FC at h
 exact AF (k1 TS) h
theorem Ym (a0 a1 r) (h:JA a0 a1=some r):AC prog 217 [.int .i64 a0,.int .i64 a1] (.int .i64 r):=by
 unfold JA at h
 refine acF func217 mixed (h:=Z ?_)
 exact AF (k2 CA TT) h
theorem Rv (u:Bool) (r:Bool) (h:Az u=some r):AR prog f126 [1,0,1,0,1] (.bool r) ⟨[(4,.bool u)],[],[]⟩:=by
 unfold Az at h
 exact AF trivial h
theorem N8 (a0 r) (h:E3 a0=some r):AC prog 126 [.int .i64 a0] (.bool r):=by
 unfold E3 at h
 refine acF func126 mixed (h:=Z ?_)
 exact AF (k1 Rv) h
theorem Yn (a0 r) (h:Kz a0=some r):AC prog 250 [.int .i64 a0] (.bool r):=by
 unfold Kz at h
 refine acF func250 mixed (h:=Z ?_)
 exact AF (k1 CA) h
theorem KL (a0 a1 r) (h:E2 a0 a1=some r):AC prog 218 [.int .i64 a0,.int .i64 a1] (.bool r):=by
 unfold E2 at h
 refine acF func218 mixed (h:=Z ?_)
 exact AF (k3 N8 CA Yn) h
theorem Sg (a0 r) (h:Jg a0=some r):AC prog 251 [.int .i64 a0] (.bool r):=by
 unfold Jg at h
 refine acF func251 mixed (h:=Z ?_)
 exact AF (k1 CA) h
theorem O5 (n:Nat):(∀j u r,CK n j u=some r→AR prog f219 [1,0,1,0,1,1,1,1,1,1,1,1,1,1,1,0,1,0,1,0] (.bool r) ⟨[(0,.rop (Agent.avs j) 0),(3,.int .i64 u)],[],[]⟩):=by
 induction n with
 |zero=>exact((fun _ _ _ h=>by rw [CK] at h; cases h))
 | succ n ih=>
  have p:=ih
  ·intro j u r h
   rw [CK] at h
   exact AF (k2 Sg p) h
theorem O6 (a0:Agent) (u:Bool) (r:Bool) (h:Bn a0 u=some r):AR prog f219 [1,0,1,0,1,1,1,1,1,1,1,1,1,1,1,0,0,1] (.bool r) ⟨[(0,.rop (Agent.avs a0) 0),(130,.bool u)],[],[]⟩:=by
 unfold Bn at h
 exact AF (k1 O5) h
theorem O7 (a0:Agent) (u:Bool) (r:Bool) (h:FM a0 u=some r):AR prog f219 [1,0,1,0,1,1,1,1,1,1,1,1,1,1,1] (.bool r) ⟨[(0,.rop (Agent.avs a0) 0),(92,.bool u)],[],[]⟩:=by
 unfold FM at h
 exact AF (k2 O6 CA) h
theorem TU (a0 r) (h:HY a0=some r):AC prog 219 [.rop (Agent.avs a0) 0] (.bool r):=by
 unfold HY at h
 refine acF func219 mixed (h:=Z ?_)
 exact AF (k3 CA Sg O7) h
theorem WI (a0 r) (h:Jh a0=some r):AC prog 165 [.rop (Agent.avs a0) 0] (.bool r):=by
 unfold Jh at h
 refine acF func165 mixed (h:=Z ?_)
 exact AF (k4 Ve Ym KL TU) h
theorem O8 (n:Nat):(∀j u r,B9 n j u=some r→AR prog f114 [1,1,0,1,0] (.bool r) ⟨[(0,.ro (j.map Agent.ds)),(3,.int .i64 u)],[],[]⟩)∧
    (∀j u w r,Dk n j u w=some r→AR prog f114 [1,1,0,1,0,0,1,0,0,1] (.bool r) ⟨[(0,.ro (j.map Agent.ds)),(3,.int .i64 u),(29,.bool w)],[],[]⟩):=by
 induction n with
 |zero=>exact⟨(fun _ _ _ h=>by rw [B9] at h; cases h),(fun _ _ _ _ h=>by rw [Dk] at h; cases h)⟩
 | succ n ih=>
  obtain⟨q,p⟩:=ih
  refine⟨?_,?_⟩
  ·intro j u r h
   rw [B9] at h
   exact AF (k2 WI p) h
  ·intro j u w r h
   rw [Dk] at h
   exact AF (k1 q) h
def Ql (n:Nat):=(O8 n).1
theorem Vf (a0 r) (h:IV a0=some r):AC prog 114 [.ro (a0.map Agent.ds)] (.bool r):=by
 unfold IV at h
 refine acF func114 mixed (h:=Z ?_)
 exact AF (k2 CA Ql) h
theorem Yo (a0 a1 r) (h:K0 a0 a1=some r):AC prog 115 [.ro (a0.map Agent.ds),.agg (Port.avs a1)] (.bool r):=by
 unfold K0 at h
 refine acF func115 mixed (h:=Z ?_)
 exact AF (k1 CA) h
theorem Vh (n:Nat):(∀j u r,EP n j u=some r→AR prog f57 [1,1,0,1,0] (.bool r) ⟨[(0,.rop [.ro (j.agents.map Agent.ds)] 0),(3,.int .i64 u)],[],[]⟩)∧
    (∀j u w y r,Er n j u w y=some r→AR prog f57 [1,1,0,1,0,0,1,0,0,1,1,0] (.bool r) ⟨[(0,.rop [.ro (j.agents.map Agent.ds)] 0),(3,.int .i64 u),(4,.rop (Agent.avs w) 0),(5,.int .i64 y)],[],[]⟩)∧
    (∀j u y w q r,Es n j u y w q=some r→AR prog f57 [1,1,0,1,0,0,1,0,0,1,1,0,0,1,0,0,1,1,1] (.bool r) ⟨[(0,.rop [.ro (j.agents.map Agent.ds)] 0),(3,.int .i64 u),(4,.rop (Agent.avs w) 0),(5,.int .i64 y),(76,.bool q)],[],[]⟩):=by
 induction n with
 |zero=>exact⟨(fun _ _ _ h=>by rw [EP] at h; cases h),(fun _ _ _ _ _ h=>by rw [Er] at h; cases h),(fun _ _ _ _ _ _ h=>by rw [Es] at h; cases h)⟩
 | succ n ih=>
  obtain⟨C,p,v⟩:=ih
  refine⟨?_,?_,?_⟩
  ·intro j u r h
   rw [EP] at h
   exact AF (k1 p) h
  ·intro j u w y r h
   rw [Er] at h
   exact AF (k3 v Yo C) h
  ·intro j u y w q r h
   rw [Es] at h
   exact AF (k1 p) h
def WJ (n:Nat):=(Vh n).1
theorem cq (a0 r) (h:Pp a0=some r):AC prog 57 [.rop (Net.avs a0) 0] (.bool r):=by
 unfold Pp at h
 refine acF func57 mixed (h:=Z ?_)
 exact AF (k2 Vf WJ) h
end Go.Proofs.YtjnifengdhcojaaGreatDoor.Ab
