/-
 The functions do what their models say. Printed by wip/ab/gen.py.
-/
import Derived.Test.YtoncbhomocgmcaaGreatDoorModU
import Derived.Test.YtoncbhomocgmcaaGreatDoorTi2
import Derived.Test.YtoncbhomocgmcaaGreatDoorWlk
namespace Go.Proofs.YtoncbhomocgmcaaGreatDoor.Ab
set_option linter.defProp false
set_option linter.unusedVariables false
set_option linter.unusedSimpArgs false
set_option maxRecDepth 20000
set_option maxHeartbeats 4000000
open Go.RowKit
theorem LI (n:Nat):(∀u w y (z1:Option Nat) r,B3 n u w y=some r→CF Tryz.prog Tryz.f42 [1,0,1,0] (.int .i64 r.1) [(1,⟨List.map Port.ds r.2,z1,0,.no⟩)] [] ⟨[(0,.own 1),(1,.int .i64 w),(5,.int .i64 y)],[(1,some ⟨List.map Port.ds u,z1,0,.no⟩)],[]⟩):=by
 induction n with
 |zero=>exact((fun _ _ _ _ _ h=>by rw [B3] at h; cases h))
 | succ n ih=>
  have ih0:=ih
  ·intro u w y z1 r h
   rw [B3] at h
   refine Aj rfl rfl (Z ?_)
   refine Bw (Z ?_)
   refine AO h (fun h=>Z ?_) (fun h=>Z ?_)
   ·refine AS ?_
    replace h:=AJ h; obtain⟨q,g,h⟩:=h
    refine Aq g (Port.ds_len _) (Z ?_)
    replace h:=AJ h; obtain⟨j,k,h⟩:=h
    refine BN (A8 g) (Z ?_)
    refine AN (j.map Port.ds) (by rw [← BG k]; simp only [List.map_set,go_sem,Port.ds_eq]) (Z ?_)
    replace h:=AJ h; obtain⟨b,d,h⟩:=h
    refine Aq d (Port.ds_len _) (Z ?_)
    replace h:=AJ h; obtain⟨c,e,h⟩:=h
    refine BN (A8 d) (Z ?_)
    refine AN (c.map Port.ds) (by rw [← BG e]; simp only [List.map_set,go_sem,Port.ds_eq]) (Z ?_)
    refine AS ?_
    exact V8 (ih0 c (IntKind.i64.wrap ((IntKind.i64.wrap (w+1))+1)) (IntKind.i64.wrap (y+1)) z1 _ h)
   ·exact AI trivial h
theorem OV (a0 a1) (z1:Option Nat) (r) (h:FB a0 a1=some r):AG Tryz.prog 42 [.own 1,.int .i64 a1] [(1,⟨List.map Port.ds a0,z1,0,.no⟩)] [] (.int .i64 r.1) [(1,⟨List.map Port.ds r.2,z1,0,.no⟩)] [] :=by
 unfold FB at h
 refine agF Tryz.func42 mixed (h:=Z ?_)
 exact SI (LI fuel a0 a1 0 z1 _ h)
theorem KD (n:Nat):(∀u w y (z1:Option Nat) r,Bg n u w y=some r→CF Tryz.prog Tryz.f22 [1,0,1,0] (.int .i64 r.1) [(1,⟨List.map Agent.ds r.2,z1,0,.no⟩)] [] ⟨[(0,.own 1),(1,.int .i64 w),(5,.int .i64 y)],[(1,some ⟨List.map Agent.ds u,z1,0,.no⟩)],[]⟩):=by
 induction n with
 |zero=>exact((fun _ _ _ _ _ h=>by rw [Bg] at h; cases h))
 | succ n ih=>
  have ih0:=ih
  ·intro u w y z1 r h
   rw [Bg] at h
   refine Aj rfl rfl (Z ?_)
   refine Bw (Z ?_)
   refine AO h (fun h=>Z ?_) (fun h=>Z ?_)
   ·refine AS ?_
    replace h:=AJ h; obtain⟨q,g,h⟩:=h
    refine Aq g (Agent.ds_len _) (Z ?_)
    replace h:=AJ h; obtain⟨j,k,h⟩:=h
    refine BN (A8 g) (Z ?_)
    refine AN (j.map Agent.ds) (by rw [← BG k]; simp only [List.map_set,go_sem,Agent.ds_eq]) (Z ?_)
    replace h:=AJ h; obtain⟨b,d,h⟩:=h
    refine Aq d (Agent.ds_len _) (Z ?_)
    replace h:=AJ h; obtain⟨c,e,h⟩:=h
    refine BN (A8 d) (Z ?_)
    refine AN (c.map Agent.ds) (by rw [← BG e]; simp only [List.map_set,go_sem,Agent.ds_eq]) (Z ?_)
    replace h:=AJ h; obtain⟨i,l,h⟩:=h
    refine Aq l (Agent.ds_len _) (Z ?_)
    replace h:=AJ h; obtain⟨t,s,h⟩:=h
    refine BN (A8 l) (Z ?_)
    refine AN (t.map Agent.ds) (by rw [← BG s]; simp only [List.map_set,go_sem,Agent.ds_eq]) (Z ?_)
    replace h:=AJ h; obtain⟨o,z,h⟩:=h
    refine Aq z (Agent.ds_len _) (Z ?_)
    refine BN (A8 z) (Z ?_)
    replace h:=AJ h; obtain⟨u1,u2,h⟩:=h
    replace h:=AJ h; obtain⟨u3,u4,h⟩:=h
    refine caG ⟨[(3000176096,.sub 1 0 [(5,Int.toNat y,3)],none)],[(1,3000176096)],[],[],[],true⟩ (FO _ _ none _ u2) (Z ?_)
    refine BN (QX (r:=List.map AB o.data) (A8 z) (Agent.ds_len _) (by simp only [go_sem,Agent.ds_eq])) (Z ?_)
    refine AN ((t.map Agent.ds).set (Int.toNat y) [.int .i64 o.kind,.int .i64 o.level,.int .i64 o.value,.gone,.sl (o.ports.map Port.ds)]) ((Ij (A8 z) (d':=.sl (o.data.map AB)) (by simp only [go_sem,Agent.ds_eq])).trans (by simp only [go_sem,Agent.ds_eq])) (Z ?_)
    refine AK (QY (Ii (A8 z)) rfl rfl) (Z ?_)
    refine AN (u3.map Agent.ds) (((Ij (Ii (A8 z)) (d':=.gone) rfl).trans (List.set_set ..)).trans (by rw [← BG u4]; simp only [List.map_set,go_sem,Agent.ds_eq])) (Z ?_)
    refine AS ?_
    replace h:=AJ h; obtain⟨u5,u6,h⟩:=h
    refine Aq u6 (Agent.ds_len _) (Z ?_)
    refine BN (A8 u6) (Z ?_)
    replace h:=AJ h; obtain⟨u7,u8,h⟩:=h
    replace h:=AJ h; obtain⟨u9,u10,h⟩:=h
    refine caG ⟨[(3000192096,.sub 1 0 [(5,Int.toNat y,4)],none)],[(1,3000192096)],[],[],[],true⟩ (OV _ _ none _ u8) (Z ?_)
    refine BN (QX (r:=List.map Port.ds u5.ports) (A8 u6) (Agent.ds_len _) (by simp only [go_sem,Agent.ds_eq])) (Z ?_)
    refine AN ((u3.map Agent.ds).set (Int.toNat y) [.int .i64 u5.kind,.int .i64 u5.level,.int .i64 u5.value,.sl (u5.data.map AB),.gone]) ((Ij (A8 u6) (d':=.sl (u5.ports.map Port.ds)) (by simp only [go_sem,Agent.ds_eq])).trans (by simp only [go_sem,Agent.ds_eq])) (Z ?_)
    refine AK (QY (Ii (A8 u6)) rfl rfl) (Z ?_)
    refine AN (u9.map Agent.ds) (((Ij (Ii (A8 u6)) (d':=.gone) rfl).trans (List.set_set ..)).trans (by rw [← BG u10]; simp only [List.map_set,go_sem,Agent.ds_eq])) (Z ?_)
    refine AS ?_
    exact V8 (ih0 u9 u7.1 (IntKind.i64.wrap (y+1)) z1 _ h)
   ·exact AI trivial h
theorem Mt (a0 a1) (z1:Option Nat) (r) (h:Eg a0 a1=some r):AG Tryz.prog 22 [.own 1,.int .i64 a1] [(1,⟨List.map Agent.ds a0,z1,0,.no⟩)] [] (.int .i64 r.1) [(1,⟨List.map Agent.ds r.2,z1,0,.no⟩)] [] :=by
 unfold Eg at h
 refine agF Tryz.func22 mixed (h:=Z ?_)
 exact SI (KD fuel a0 a1 0 z1 _ h)
theorem Qx (a0 a1) (z1:Option Nat) (r) (h:Fi a0 a1=some r):AG Tryz.prog 10 [.agg [.own 1],.int .i64 a1] [(1,⟨List.map Agent.ds a0.agents,z1,0,.no⟩)] [] (.int .i64 r.1) [(1,⟨List.map Agent.ds r.2,z1,0,.no⟩)] [] :=by
 unfold Fi at h
 refine agF Tryz.func10 mixed (h:=Z ?_)
 replace h:=AJ h; obtain⟨u,w,h⟩:=h
 refine caG ⟨[],[(1,1)],[],[],[],true⟩ (Mt _ _ z1 _ w) (Z ?_)
 exact AI trivial h
theorem Q1 (a0 a1 r) (h:G8 a0 a1=some r):AC Tryz.prog 48 [.ro (a0.map Port.ds),.int .i64 a1] (.int .i64 r):=by
 unfold G8 at h
 refine acF Tryz.func48 mixed (h:=Z ?_)
 exact AI trivial h
theorem Q2 (a0 a1 r) (h:Fk a0 a1=some r):AC Tryz.prog 27 [.agg (Agent.avs a0),.int .i64 a1] (.int .i64 r):=by
 unfold Fk at h
 refine acF Tryz.func27 mixed (h:=Z ?_)
 exact AI (k2 Ot Q1) h
theorem L2 (n:Nat):(∀a0 u w r,Cu n a0 u w=some r→BE Tryz.prog Tryz.f13 [1,1,1,0,1,0] (.int .i64 r) ⟨[(0,.ro (a0.map Agent.ds)),(1,.int .i64 u),(5,.int .i64 w)],[],[]⟩):=by
 induction n with
 |zero=>exact((fun _ _ _ _ h=>by rw [Cu] at h; cases h))
 | succ n ih=>
  have ih0:=ih
  ·intro a0 u w r h
   rw [Cu] at h
   exact AI (k2 Q2 ih0) h
theorem O2 (a0 a1 r) (h:GD a0 a1=some r):AC Tryz.prog 13 [.ro (a0.map Agent.ds),.int .i64 a1] (.int .i64 r):=by
 unfold GD at h
 refine acF Tryz.func13 mixed (h:=Z ?_)
 exact AI (k1 L2) h
theorem UA (a0 a1 r) (h:K2 a0 a1=some r):AC Tryz.prog 4 [.agg (Net.avs a0),.int .i64 a1] (.int .i64 r):=by
 unfold K2 at h
 refine acF Tryz.func4 mixed (h:=Z ?_)
 exact AI (k1 O2) h
theorem Sp (a0 r) (h:G9 a0=some r):AC Tryz.prog 82 [.agg (Port.avs a0)] (.agg (Port.rv r)):=by
 unfold G9 at h
 refine acF Tryz.func82 mixed (h:=Z ?_)
 exact AI trivial h
theorem Mu (n:Nat):(∀a0 u w r,DL n a0 u w=some r→BE Tryz.prog Tryz.f53 [1,1,0,1,0] (.ow (some 2) (r.map Port.ds)) ⟨[(0,.ro (a0.map Port.ds)),(3,.own 1000001000),(4,.int .i64 w)],[(1000001000,some ⟨List.map Port.ds u,some 2,0,.no⟩)],[]⟩):=by
 induction n with
 |zero=>exact((fun _ _ _ _ h=>by rw [DL] at h; cases h))
 | succ n ih=>
  have ih0:=ih
  ·intro a0 u w r h
   rw [DL] at h
   refine Bn rfl rfl (Z ?_)
   refine Bw (Z ?_)
   refine AO h (fun h=>Z ?_) (fun h=>Z ?_)
   ·refine AS ?_
    replace h:=AJ h; obtain⟨y,q,h⟩:=h
    refine Aq q (Port.ds_len _) (Z ?_)
    replace h:=AJ h; obtain⟨g,j,h⟩:=h
    refine AU (Sp _ _ j) (Z ?_)
    replace h:=AJ h; obtain⟨k,b,h⟩:=h
    refine Aq b (Port.ds_len _) (Z ?_)
    replace h:=AJ h; obtain⟨d,c,h⟩:=h
    refine BN (A8 b) (Z ?_)
    refine AN (d.map Port.ds) (by rw [← BG c]; simp only [List.map_set,go_sem,Port.ds_eq]) (Z ?_)
    exact AI (k1 ih0) h
   ·exact AI trivial h
theorem Q3 (a0 r) (h:HA a0=some r):AC Tryz.prog 53 [.ro (a0.map Port.ds)] (.ow (some 2) (r.map Port.ds)):=by
 unfold HA at h
 refine acF Tryz.func53 mixed (h:=Z ?_)
 replace h:=AJ h; obtain⟨u,w,h⟩:=h
 have hq_:=Kw w
 obtain⟨hv2002a,hv2002b,hv2002c⟩:=hq_
 refine AK (by refine⟨?_,?_,?_⟩ <;> omega) (Z ?_)
 refine AP .no (Z ?_)
 refine AN (u.map Port.ds) (by rw [← hv2002c]; simp only [List.map_replicate,go_sem,Port.ds_eq]) (Z ?_)
 exact AI (k1 Mu) h
theorem Q4 (a0 r) (h:Fl a0=some r):AC Tryz.prog 32 [.agg (Agent.avs a0)] (.agg (Agent.rv r)):=by
 unfold Fl at h
 refine acF Tryz.func32 mixed (h:=Z ?_)
 exact AI (k2 Ou Q3) h
theorem L3 (n:Nat):(∀a0 u w r,Cv n a0 u w=some r→BE Tryz.prog Tryz.f16 [1,1,0,1,0] (.ow (some 5) (r.map Agent.ds)) ⟨[(0,.ro (a0.map Agent.ds)),(3,.own 1000001000),(4,.int .i64 w)],[(1000001000,some ⟨List.map Agent.ds u,some 5,0,.no⟩)],[]⟩):=by
 induction n with
 |zero=>exact((fun _ _ _ _ h=>by rw [Cv] at h; cases h))
 | succ n ih=>
  have ih0:=ih
  ·intro a0 u w r h
   rw [Cv] at h
   refine Bn rfl rfl (Z ?_)
   refine Bw (Z ?_)
   refine AO h (fun h=>Z ?_) (fun h=>Z ?_)
   ·refine AS ?_
    replace h:=AJ h; obtain⟨y,q,h⟩:=h
    refine Aq q (Agent.ds_len _) (Z ?_)
    replace h:=AJ h; obtain⟨g,j,h⟩:=h
    refine AU (Q4 _ _ j) (Z ?_)
    replace h:=AJ h; obtain⟨k,b,h⟩:=h
    refine Aq b (Agent.ds_len _) (Z ?_)
    replace h:=AJ h; obtain⟨d,c,h⟩:=h
    refine BN (A8 b) (Z ?_)
    refine AN (d.map Agent.ds) (by rw [← BG c]; simp only [List.map_set,go_sem,Agent.ds_eq]) (Z ?_)
    exact AI (k1 ih0) h
   ·exact AI trivial h
theorem O3 (a0 r) (h:GE a0=some r):AC Tryz.prog 16 [.ro (a0.map Agent.ds)] (.ow (some 5) (r.map Agent.ds)):=by
 unfold GE at h
 refine acF Tryz.func16 mixed (h:=Z ?_)
 replace h:=AJ h; obtain⟨u,w,h⟩:=h
 have hq_:=Kw w
 obtain⟨hv2002a,hv2002b,hv2002c⟩:=hq_
 refine AK (by refine⟨?_,?_,?_⟩ <;> omega) (Z ?_)
 refine AP .no (Z ?_)
 refine AN (u.map Agent.ds) (by rw [← hv2002c]; simp only [List.map_replicate,go_sem,Agent.ds_eq]) (Z ?_)
 exact AI (k1 L3) h
theorem J9 (a0 r) (h:FZ a0=some r):AC Tryz.prog 6 [.agg (Net.avs a0)] (.agg (Net.rv r)):=by
 unfold FZ at h
 refine acF Tryz.func6 mixed (h:=Z ?_)
 exact AI (k1 O3) h
theorem Sq (a0 a1 r) (h:HC a0 a1=some r):AC Tryz.prog 90 [.agg (Port.avs a0),.agg (Port.avs a1)] (.bool r):=by
 unfold HC at h
 refine acF Tryz.func90 mixed (h:=Z ?_)
 exact AI trivial h
theorem Mv (n:Nat):(∀a0 a1 u r,DM n a0 a1 u=some r→BE Tryz.prog Tryz.f67 [1,1,0,1,0] (.bool r) ⟨[(0,.ro (a0.map Port.ds)),(1,.ro (a1.map Port.ds)),(5,.int .i64 u)],[],[]⟩):=by
 induction n with
 |zero=>exact((fun _ _ _ _ h=>by rw [DM] at h; cases h))
 | succ n ih=>
  have ih0:=ih
  ·intro a0 a1 u r h
   rw [DM] at h
   exact AI (k2 Sq ih0) h
theorem Q5 (a0 a1 r) (h:HD a0 a1=some r):AC Tryz.prog 67 [.ro (a0.map Port.ds),.ro (a1.map Port.ds)] (.bool r):=by
 unfold HD at h
 refine acF Tryz.func67 mixed (h:=Z ?_)
 exact AI (k1 Mv) h
theorem Q6 (a0 a1 r) (h:Fm a0 a1=some r):AC Tryz.prog 40 [.agg (Agent.avs a0),.agg (Agent.avs a1)] (.bool r):=by
 unfold Fm at h
 refine acF Tryz.func40 mixed (h:=Z ?_)
 exact AI (k2 JV Q5) h
theorem L4 (n:Nat):(∀a0 a1 u r,Cw n a0 a1 u=some r→BE Tryz.prog Tryz.f21 [1,1,0,1,0] (.bool r) ⟨[(0,.ro (a0.map Agent.ds)),(1,.ro (a1.map Agent.ds)),(5,.int .i64 u)],[],[]⟩):=by
 induction n with
 |zero=>exact((fun _ _ _ _ h=>by rw [Cw] at h; cases h))
 | succ n ih=>
  have ih0:=ih
  ·intro a0 a1 u r h
   rw [Cw] at h
   exact AI (k2 Q6 ih0) h
theorem O4 (a0 a1 r) (h:GF a0 a1=some r):AC Tryz.prog 21 [.ro (a0.map Agent.ds),.ro (a1.map Agent.ds)] (.bool r):=by
 unfold GF at h
 refine acF Tryz.func21 mixed (h:=Z ?_)
 exact AI (k1 L4) h
theorem T9 (a0 a1 r) (h:JC a0 a1=some r):AC Tryz.prog 9 [.agg (Net.avs a0),.agg (Net.avs a1)] (.bool r):=by
 unfold JC at h
 refine acF Tryz.func9 mixed (h:=Z ?_)
 exact AI (k1 O4) h
theorem Iw (a0 r) (h:GG a0=some r):AC Tryz.prog 106 [.int .i64 a0] (.bool r):=by
 unfold GG at h
 refine acF Tryz.func106 mixed (h:=Z ?_)
 exact AI trivial h
theorem Mw (a0:Int) (u:Bool) (r:Int) (h:DN a0 u=some r):BE Tryz.prog Tryz.f95 [1,0,0,1,1,1] (.int .i64 r) ⟨[(0,.int .i64 a0),(18,.bool u)],[],[]⟩:=by
 unfold DN at h
 refine Bn rfl rfl (Z ?_)
 refine AO h (fun h=>Z ?_) (fun h=>Z ?_)
 ·exact AI trivial h
 ·refine AS ?_
  replace h:=AJ h; obtain⟨w,y,h⟩:=h
  refine BN y (Z ?_)
  exact AI trivial h
theorem Mx (a0:Int) (a1:Int) (u:Bool) (r:Int) (h:DO a0 a1 u=some r):BE Tryz.prog Tryz.f95 [1,0,0,1] (.int .i64 r) ⟨[(0,.int .i64 a0),(1,.int .i64 a1),(5,.bool u)],[],[]⟩:=by
 unfold DO at h
 exact AI (k2 Iw Mw) h
theorem Q7 (a0 a1 r) (h:Fo a0 a1=some r):AC Tryz.prog 95 [.int .i64 a0,.int .i64 a1] (.int .i64 r):=by
 unfold Fo at h
 refine acF Tryz.func95 mixed (h:=Z ?_)
 exact AI (k1 Mx) h
theorem O5 (a0 a1 r) (h:GH a0 a1=some r):AC Tryz.prog 96 [.int .i64 a0,.int .i64 a1] (.int .i64 r):=by
 unfold GH at h
 refine acF Tryz.func96 mixed (h:=Z ?_)
 exact AI trivial h
theorem O6 (a0 r) (h:Hh a0=some r):AC Tryz.prog 107 [.int .i64 a0] (.bool r):=by
 unfold Hh at h
 refine acF Tryz.func107 mixed (h:=Z ?_)
 exact AI (k1 Iw) h
theorem Q8 (a0 r) (h:JD a0=some r):AC Tryz.prog 108 [.int .i64 a0] (.bool r):=by
 unfold JD at h
 refine acF Tryz.func108 mixed (h:=Z ?_)
 exact AI trivial h
theorem OW (a0 a1 r) (h:EP a0 a1=some r):AC Tryz.prog 97 [.int .i64 a0,.int .i64 a1] (.bool r):=by
 unfold EP at h
 refine acF Tryz.func97 mixed (h:=Z ?_)
 exact AI (k3 Iw O6 Q8) h
theorem Gq (n:Nat):(∀ (a0:List Int) (u:Int) (f1:(Int→Option Bool)) (g1:FuncId) (c1:List AV) (s1:Still c1) (h1:∀ (y0:Int) (q:Bool),f1 y0=some q→AC Tryz.prog g1 (fnA c1 [.int .i64 y0]) (.bool q)) (r:Int),A6 n a0 u f1=some r→BE Tryz.prog Tryz.f109 [1,0,1,0] (.int .i64 r) ⟨[(0,.ro (a0.map AB)),(1,.fn g1 c1),(7,.int .i64 (a0.length:Int)),(8,.int .i64 u)],[],[]⟩):=by
 induction n with
 |zero=>exact((fun _ _ _ _ _ _ _ _ h=>by rw [A6] at h; cases h))
 | succ n ih=>
  have ih0:=ih
  ·intro a0 u f1 g1 c1 s1 h1 r h
   rw [A6] at h
   refine Bn rfl rfl ?_
   try simp only [go_sem,s1.k,s1.r,s1.c,s1.p,s1.o,s1.f]
   refine Bw ?_
   try simp only [go_sem,s1.k,s1.r,s1.c,s1.p,s1.o,s1.f]
   refine AO h (fun h=>?_) (fun h=>?_)
   ·try simp only [go_sem,s1.k,s1.r,s1.c,s1.p,s1.o,s1.f]
    refine D3 ?_
    try simp only [go_sem,s1.k,s1.r,s1.c,s1.p,s1.o,s1.f]
    replace h:=AJ h; obtain⟨w,y,h⟩:=h
    refine Aq y rfl ?_
    try simp only [go_sem,s1.k,s1.r,s1.c,s1.p,s1.o,s1.f]
    replace h:=AJ h; obtain⟨g,j,h⟩:=h
    refine AU (h1 _ _ j) ?_
    try simp only [go_sem,s1.k,s1.r,s1.c,s1.p,s1.o,s1.f]
    refine D3 ?_
    try simp only [go_sem,s1.k,s1.r,s1.c,s1.p,s1.o,s1.f]
    refine AO h (fun h=>?_) (fun h=>?_)
    ·try simp only [go_sem,s1.k,s1.r,s1.c,s1.p,s1.o,s1.f]
     cases h
     simp only [go_sem,s1.k,s1.r,s1.c,s1.p,s1.o,s1.f]
    ·try simp only [go_sem,s1.k,s1.r,s1.c,s1.p,s1.o,s1.f]
     refine D3 ?_
     try simp only [go_sem,s1.k,s1.r,s1.c,s1.p,s1.o,s1.f]
     refine R0 (EF rfl rfl (ih0 a0 (IntKind.i64.wrap (u+1)) f1 g1 c1 s1 h1 _ h):) (.one ⟨_,.done _,[],[],?_⟩)
     try simp only [go_sem,s1.k,s1.r,s1.c,s1.p,s1.o,s1.f]
   ·try simp only [go_sem,s1.k,s1.r,s1.c,s1.p,s1.o,s1.f]
    refine D3 ?_
    try simp only [go_sem,s1.k,s1.r,s1.c,s1.p,s1.o,s1.f]
    cases h
    simp only [go_sem,s1.k,s1.r,s1.c,s1.p,s1.o,s1.f]
theorem IE (a0:List Int) (f1:(Int→Option Bool)) (g1:FuncId) (c1:List AV) (s1:Still c1) (h1:∀ (y0:Int) (q:Bool),f1 y0=some q→AC Tryz.prog g1 (fnA c1 [.int .i64 y0]) (.bool q)) (r:Int) (h:DP a0 f1=some r):AC Tryz.prog 109 [.ro (a0.map AB),.fn g1 c1] (.int .i64 r):=by
 unfold DP at h
 refine acF Tryz.func109 mixed (h:=?_)
 try simp only [go_sem,s1.k,s1.r,s1.c,s1.p,s1.o,s1.f]
 refine EX (EF rfl rfl (Gq fuel a0 0 f1 g1 c1 s1 h1 _ h):) (.one ⟨_,.done _,[],[],?_⟩)
 try simp only [go_sem,s1.k,s1.r,s1.c,s1.p,s1.o,s1.f]
theorem Gr (a0:List Int) (f1:(Int→Option Bool)) (g1:FuncId) (c1:List AV) (s1:Still c1) (h1:∀ (y0:Int) (q:Bool),f1 y0=some q→AC Tryz.prog g1 (fnA c1 [.int .i64 y0]) (.bool q)) (r:Bool) (h:BL a0 f1=some r):AC Tryz.prog 98 [.ro (a0.map AB),.fn g1 c1] (.bool r):=by
 unfold BL at h
 refine acF Tryz.func98 mixed (h:=?_)
 try simp only [go_sem,s1.k,s1.r,s1.c,s1.p,s1.o,s1.f]
 replace h:=AJ h; obtain⟨u,w,h⟩:=h
 refine AU (IE _ _ g1 c1 s1 h1 _ w) ?_
 try simp only [go_sem,s1.k,s1.r,s1.c,s1.p,s1.o,s1.f]
 refine D3 ?_
 try simp only [go_sem,s1.k,s1.r,s1.c,s1.p,s1.o,s1.f]
 cases h
 simp only [go_sem,s1.k,s1.r,s1.c,s1.p,s1.o,s1.f]
theorem Hz (a0 r) (h:Dw a0=some r):AC Tryz.prog 100 [.int .i64 a0] (.bool r):=by
 unfold Dw at h
 refine acF Tryz.func100 mixed (h:=Z ?_)
 exact AI trivial h
theorem LJ (a0 r) (h:Dp a0=some r):AC Tryz.prog 99 [.int .i64 a0] (.bool r):=by
 unfold Dp at h
 refine acF Tryz.func99 mixed (h:=Z ?_)
 exact AI (k1 Hz) h
theorem UB (a0 r) (h:JE a0=some r):AC Tryz.prog 101 [.int .i64 a0] (.bool r):=by
 unfold JE at h
 refine acF Tryz.func101 mixed (h:=Z ?_)
 exact AI trivial h
theorem My (a0 r) (h:Dx a0=some r):AC Tryz.prog 102 [.int .i64 a0] (.bool r):=by
 unfold Dx at h
 refine acF Tryz.func102 mixed (h:=Z ?_)
 exact AI trivial h
theorem KE (u:Bool) (w:Bool) (r:Bool) (h:Ac u w=some r):BE Tryz.prog Tryz.f83 [1,1,1,1,1] (.bool r) ⟨[(3,.bool u),(4,.bool w)],[],[]⟩:=by
 unfold Ac at h
 exact AI trivial h
theorem KF (a0:Agent) (u:Bool) (r:Bool) (h:Bh a0 u=some r):BE Tryz.prog Tryz.f83 [1,0,1] (.bool r) ⟨[(1,.box 1000000500 0),(32,.bool u)],[],[(1000000500,some (Agent.avs a0))]⟩:=by
 unfold Bh at h
 refine Bn rfl rfl (Z ?_)
 refine AO h (fun h=>Z ?_) (fun h=>Z ?_)
 ·exact AI trivial h
 ·refine AS ?_
  refine BS [] .fin (by kernel_rfl) (Z ?_)
  refine AS ?_
  replace h:=AJ h; obtain⟨w,y,h⟩:=h
  refine AU (Gr _ _ 99 [] (Still.of rfl) (fun y0 q hq=>LJ y0  q hq) _ y) (Z ?_)
  exact AI (k4 UB KE My Hz) h
theorem Mz (a0 r) (h:Eh a0=some r):AC Tryz.prog 83 [.agg (Agent.avs a0)] (.bool r):=by
 unfold Eh at h
 refine acF Tryz.func83 mixed (h:=Z ?_)
 exact AI (k4 KF O5 Q7 OW) h
theorem KG (n:Nat):(∀a0 u r,Bb n a0 u=some r→BE Tryz.prog Tryz.f54 [1,1,0,1,0] (.bool r) ⟨[(13,.ro (a0.map Agent.ds)),(14,.int .i64 (a0.length:Int)),(15,.int .i64 u)],[],[]⟩)∧
    (∀a0 u w r,Cc n a0 u w=some r→BE Tryz.prog Tryz.f54 [1,1,0,1,0,0,1,1,0,0,1,1] (.bool r) ⟨[(13,.ro (a0.map Agent.ds)),(14,.int .i64 (a0.length:Int)),(15,.int .i64 u),(30,.bool w)],[],[]⟩):=by
 induction n with
 |zero=>exact⟨(fun _ _ _ h=>by rw [Bb] at h; cases h),(fun _ _ _ _ h=>by rw [Cc] at h; cases h)⟩
 | succ n ih=>
  obtain⟨ih0,ih1⟩:=ih
  refine⟨?_,?_⟩
  ·intro a0 u r h
   rw [Bb] at h
   exact AI (k2 Mz ih1) h
  ·intro a0 u w r h
   rw [Cc] at h
   exact AI (k1 ih0) h
def LK (n:Nat):=(KG n).1
theorem LM (a0:List Agent) (u:Bool) (r:Bool) (h:Dq a0 u=some r):BE Tryz.prog Tryz.f54 [1,0,1] (.bool r) ⟨[(0,.ro (a0.map Agent.ds)),(12,.bool u)],[],[]⟩:=by
 unfold Dq at h
 exact AI (k1 LK) h
theorem OX (a0 r) (h:FC a0=some r):AC Tryz.prog 54 [.ro (a0.map Agent.ds)] (.bool r):=by
 unfold FC at h
 refine acF Tryz.func54 mixed (h:=Z ?_)
 exact AI (k1 LM) h
theorem FQ (n:Nat):(∀ (a0:List Port) (u:Int) (f1:(Port→Option Bool)) (g1:FuncId) (c1:List AV) (s1:Still c1) (h1:∀ (y0:Port) (q:Bool),f1 y0=some q→AC Tryz.prog g1 (fnA c1 [.agg (Port.avs y0)]) (.bool q)) (r:Int),Ak n a0 u f1=some r→BE Tryz.prog Tryz.f84 [1,0,1,0] (.int .i64 r) ⟨[(0,.ro (a0.map Port.ds)),(1,.fn g1 c1),(7,.int .i64 (a0.length:Int)),(8,.int .i64 u)],[],[]⟩):=by
 induction n with
 |zero=>exact((fun _ _ _ _ _ _ _ _ h=>by rw [Ak] at h; cases h))
 | succ n ih=>
  have ih0:=ih
  ·intro a0 u f1 g1 c1 s1 h1 r h
   rw [Ak] at h
   refine Bn rfl rfl ?_
   try simp only [go_sem,s1.k,s1.r,s1.c,s1.p,s1.o,s1.f]
   refine Bw ?_
   try simp only [go_sem,s1.k,s1.r,s1.c,s1.p,s1.o,s1.f]
   refine AO h (fun h=>?_) (fun h=>?_)
   ·try simp only [go_sem,s1.k,s1.r,s1.c,s1.p,s1.o,s1.f]
    refine D3 ?_
    try simp only [go_sem,s1.k,s1.r,s1.c,s1.p,s1.o,s1.f]
    replace h:=AJ h; obtain⟨w,y,h⟩:=h
    refine Aq y (Port.ds_len _) ?_
    try simp only [go_sem,s1.k,s1.r,s1.c,s1.p,s1.o,s1.f]
    replace h:=AJ h; obtain⟨g,j,h⟩:=h
    refine AU (h1 _ _ j) ?_
    try simp only [go_sem,s1.k,s1.r,s1.c,s1.p,s1.o,s1.f]
    refine D3 ?_
    try simp only [go_sem,s1.k,s1.r,s1.c,s1.p,s1.o,s1.f]
    refine AO h (fun h=>?_) (fun h=>?_)
    ·try simp only [go_sem,s1.k,s1.r,s1.c,s1.p,s1.o,s1.f]
     cases h
     simp only [go_sem,s1.k,s1.r,s1.c,s1.p,s1.o,s1.f]
    ·try simp only [go_sem,s1.k,s1.r,s1.c,s1.p,s1.o,s1.f]
     refine D3 ?_
     try simp only [go_sem,s1.k,s1.r,s1.c,s1.p,s1.o,s1.f]
     refine R0 (EF rfl rfl (ih0 a0 (IntKind.i64.wrap (u+1)) f1 g1 c1 s1 h1 _ h):) (.one ⟨_,.done _,[],[],?_⟩)
     try simp only [go_sem,s1.k,s1.r,s1.c,s1.p,s1.o,s1.f]
   ·try simp only [go_sem,s1.k,s1.r,s1.c,s1.p,s1.o,s1.f]
    refine D3 ?_
    try simp only [go_sem,s1.k,s1.r,s1.c,s1.p,s1.o,s1.f]
    cases h
    simp only [go_sem,s1.k,s1.r,s1.c,s1.p,s1.o,s1.f]
theorem GT (a0:List Port) (f1:(Port→Option Bool)) (g1:FuncId) (c1:List AV) (s1:Still c1) (h1:∀ (y0:Port) (q:Bool),f1 y0=some q→AC Tryz.prog g1 (fnA c1 [.agg (Port.avs y0)]) (.bool q)) (r:Int) (h:CI a0 f1=some r):AC Tryz.prog 84 [.ro (a0.map Port.ds),.fn g1 c1] (.int .i64 r):=by
 unfold CI at h
 refine acF Tryz.func84 mixed (h:=?_)
 try simp only [go_sem,s1.k,s1.r,s1.c,s1.p,s1.o,s1.f]
 refine EX (EF rfl rfl (FQ fuel a0 0 f1 g1 c1 s1 h1 _ h):) (.one ⟨_,.done _,[],[],?_⟩)
 try simp only [go_sem,s1.k,s1.r,s1.c,s1.p,s1.o,s1.f]
theorem FR (a0:List Port) (f1:(Port→Option Bool)) (g1:FuncId) (c1:List AV) (s1:Still c1) (h1:∀ (y0:Port) (q:Bool),f1 y0=some q→AC Tryz.prog g1 (fnA c1 [.agg (Port.avs y0)]) (.bool q)) (r:Bool) (h:BH a0 f1=some r):AC Tryz.prog 55 [.ro (a0.map Port.ds),.fn g1 c1] (.bool r):=by
 unfold BH at h
 refine acF Tryz.func55 mixed (h:=?_)
 try simp only [go_sem,s1.k,s1.r,s1.c,s1.p,s1.o,s1.f]
 replace h:=AJ h; obtain⟨u,w,h⟩:=h
 refine AU (GT _ _ g1 c1 s1 h1 _ w) ?_
 try simp only [go_sem,s1.k,s1.r,s1.c,s1.p,s1.o,s1.f]
 refine D3 ?_
 try simp only [go_sem,s1.k,s1.r,s1.c,s1.p,s1.o,s1.f]
 cases h
 simp only [go_sem,s1.k,s1.r,s1.c,s1.p,s1.o,s1.f]
theorem KH (n:Nat):(∀a0 u w r,BO n a0 u w=some r→BE Tryz.prog Tryz.f56 [1,1,0,1,0] (.ow (some 2) (r.map Port.ds)) ⟨[(3,.own 1000000000),(10,.ro (a0.agents.map Agent.ds)),(11,.int .i64 (a0.agents.length:Int)),(12,.int .i64 w)],[(1000000000,some ⟨List.map Port.ds u,some 2,0,.no⟩)],[]⟩)∧
    (∀a0 w y q g r,B4 n a0 w y q g=some r→BE Tryz.prog Tryz.f56 [1,1,0,1,0,0,1,1,0,0,1,1,0] (.ow (some 2) (r.map Port.ds)) ⟨[(3,.own 1000004000),(4,.int .i64 w),(10,.ro (a0.agents.map Agent.ds)),(11,.int .i64 (a0.agents.length:Int)),(12,.int .i64 w),(19,.int .i64 (y.ports.length:Int)),(20,.int .i64 g)],[(1000004000,some ⟨List.map Port.ds q,some 2,0,.no⟩)],[]⟩):=by
 induction n with
 |zero=>exact⟨(fun _ _ _ _ h=>by rw [BO] at h; cases h),(fun _ _ _ _ _ _ h=>by rw [B4] at h; cases h)⟩
 | succ n ih=>
  obtain⟨ih0,ih1⟩:=ih
  refine⟨?_,?_⟩
  ·intro a0 u w r h
   rw [BO] at h
   exact AI (k1 ih1) h
  ·intro a0 w y q g r h
   rw [B4] at h
   refine Bn rfl rfl (Z ?_)
   refine Bw (Z ?_)
   refine AO h (fun h=>Z ?_) (fun h=>Z ?_)
   ·refine AS ?_
    replace h:=AJ h; obtain⟨k,b,h⟩:=h
    have hq_:=AH b
    obtain⟨hv9005a,hv9005b⟩:=hq_
    refine AP .no (Z ?_)
    refine AK (by refine⟨?_,?_⟩ <;> (try simp only [List.length_map,List.length_append,List.length_cons,List.length_nil] at*) <;> (try unfold maxLen) <;> omega) (Z ?_)
    refine AN (k.map Port.ds) (by rw [← hv9005b]; simp only [List.map_append,List.map_cons,List.map_nil,List.nil_append,List.append_nil,go_sem,Port.ds_eq]) (Z ?_)
    exact AI (k1 ih1) h
   ·exact AI (k1 ih0) h
def LN (n:Nat):=(KH n).1
theorem OY (a0 r) (h:FD a0=some r):AC Tryz.prog 56 [.rop (Net.avs a0) 0] (.ow (some 2) (r.map Port.ds)):=by
 unfold FD at h
 refine acF Tryz.func56 mixed (h:=Z ?_)
 refine EX (EF rfl rfl (LN fuel a0 [] 0 _ h):) (.one ⟨_,.slot 3 2000000000 (some 2) .no (by simp only [go_sem]) (by simp only [go_sem]) (.done _),[(1000000000,2000000000)],[],?_⟩)
 simp only [go_sem]
 all_goals try rfl
theorem EC (a0 a1 r) (h:CB a0 a1=some r):AC Tryz.prog 35 [.rop (Net.avs a0) 0,.agg (Port.avs a1)] (.agg (Port.rv r)):=by
 unfold CB at h
 refine acF Tryz.func35 mixed (h:=Z ?_)
 refine AS ?_
 refine BS [false,false,false,false,false,false,false,false,false,false,false,false,false,true] (Tr.sq [13] .fin) (by kernel_rfl) (Z ?_)
 exact AI trivial h
theorem Q9 (a0 a1 r) (h:HE a0 a1=some r):AC Tryz.prog 58 [.ro (a0.map Agent.ds),.agg (Port.avs a1)] (.bool r):=by
 unfold HE at h
 refine acF Tryz.func58 mixed (h:=Z ?_)
 exact AI trivial h
theorem M0 (a0 a1 r) (h:Ei a0 a1=some r):AC Tryz.prog 57 [.agg (Port.avs a0),.rop (Net.avs a1) 0] (.bool r):=by
 unfold Ei at h
 refine acF Tryz.func57 mixed (h:=Z ?_)
 exact AI (k2 EC Q9) h
theorem JX (a0 r) (h:DI a0=some r):AC Tryz.prog 33 [.agg (Net.avs a0)] (.bool r):=by
 unfold DI at h
 refine acF Tryz.func33 mixed (h:=Z ?_)
 replace h:=AJ h; obtain⟨u,w,h⟩:=h
 refine AU (OX _ _ w) (Z ?_)
 refine AS ?_
 refine AO h (fun h=>Z ?_) (fun h=>Z ?_)
 ·exact AI trivial h
 ·refine AS ?_
  replace h:=AJ h; obtain⟨y,g,h⟩:=h
  refine AU (OY _ _ g) (Z ?_)
  replace h:=AJ h; obtain⟨j,k,h⟩:=h
  refine AU (FR _ _ 57 [.agg [],.rop [.ro (a0.agents.map Agent.ds)] 0] (Still.of (by simp only [Bj,BM,Bool.and_true,Bool.true_and,Bool.and_self])) (fun y0 q hq=>M0 y0 _ q hq) _ k) (Z ?_)
  exact AI trivial h
theorem Dr (a0 a1 a2 r) (h:Cf a0 a1 a2=some r):AC Tryz.prog 49 [.int .i64 a0,.int .i64 a1,.int .i64 a2] (.bool r):=by
 unfold Cf at h
 refine acF Tryz.func49 mixed (h:=Z ?_)
 exact AI trivial h
theorem M1 (u:Bool) (r:Int) (h:DQ u=some r):BE Tryz.prog Tryz.f68 [1,1,1,0,1,0,1,1,1,1,1] (.int .i64 r) ⟨[(23,.bool u)],[],[]⟩:=by
 unfold DQ at h
 exact AI trivial h
theorem M2 (a0:Int) (u:Bool) (r:Int) (h:Dy a0 u=some r):BE Tryz.prog Tryz.f68 [1,1,1,0,1,0,1,1,1] (.int .i64 r) ⟨[(13,.int .i64 a0),(19,.bool u)],[],[]⟩:=by
 unfold Dy at h
 exact AI (k1 M1) h
theorem M3 (a0:Int) (u:Bool) (r:Int) (h:DR a0 u=some r):BE Tryz.prog Tryz.f68 [1,1,1,0,1,0,1] (.int .i64 r) ⟨[(13,.int .i64 a0),(14,.bool u)],[],[]⟩:=by
 unfold DR at h
 exact AI (k1 M2) h
theorem RA (a0 a1 r) (h:Fp a0 a1=some r):AC Tryz.prog 68 [.int .i64 a0,.int .i64 a1] (.int .i64 r):=by
 unfold Fp at h
 refine acF Tryz.func68 mixed (h:=Z ?_)
 exact AI (k2 Dr M3) h
theorem OZ (a0 r) (h:FE a0=some r):AC Tryz.prog 69 [.rop (Agent.avs a0) 0] (.int .i64 r):=by
 unfold FE at h
 refine acF Tryz.func69 mixed (h:=Z ?_)
 exact AI trivial h
theorem L5 (u:Bool) (r:Bool) (h:A2 u=some r):BE Tryz.prog Tryz.f91 [1,0,1,0,1] (.bool r) ⟨[(4,.bool u)],[],[]⟩:=by
 unfold A2 at h
 exact AI trivial h
theorem O7 (a0 r) (h:GI a0=some r):AC Tryz.prog 91 [.int .i64 a0] (.bool r):=by
 unfold GI at h
 refine acF Tryz.func91 mixed (h:=Z ?_)
 exact AI (k1 L5) h
theorem RB (a0 r) (h:HF a0=some r):AC Tryz.prog 92 [.int .i64 a0] (.bool r):=by
 unfold HF at h
 refine acF Tryz.func92 mixed (h:=Z ?_)
 exact AI (k1 Dr) h
theorem O8 (a0 a1 r) (h:E0 a0 a1=some r):AC Tryz.prog 70 [.int .i64 a0,.int .i64 a1] (.bool r):=by
 unfold E0 at h
 refine acF Tryz.func70 mixed (h:=Z ?_)
 exact AI (k3 O7 Dr RB) h
theorem MZ (a0 r) (h:GJ a0=some r):AC Tryz.prog 93 [.int .i64 a0] (.bool r):=by
 unfold GJ at h
 refine acF Tryz.func93 mixed (h:=Z ?_)
 exact AI (k1 Dr) h
theorem KI (n:Nat):(∀a0 u r,Bi n a0 u=some r→BE Tryz.prog Tryz.f71 [1,0,1,0,1,1,1,1,1,1,1,1,1,1,1,0,1,0,1,0] (.bool r) ⟨[(0,.rop (Agent.avs a0) 0),(3,.int .i64 u)],[],[]⟩):=by
 induction n with
 |zero=>exact((fun _ _ _ h=>by rw [Bi] at h; cases h))
 | succ n ih=>
  have ih0:=ih
  ·intro a0 u r h
   rw [Bi] at h
   exact AI (k2 MZ ih0) h
theorem KJ (a0:Agent) (u:Bool) (r:Bool) (h:BP a0 u=some r):BE Tryz.prog Tryz.f71 [1,0,1,0,1,1,1,1,1,1,1,1,1,1,1,0,0,1] (.bool r) ⟨[(0,.rop (Agent.avs a0) 0),(130,.bool u)],[],[]⟩:=by
 unfold BP at h
 exact AI (k1 KI) h
theorem KL (a0:Agent) (u:Bool) (r:Bool) (h:DY a0 u=some r):BE Tryz.prog Tryz.f71 [1,0,1,0,1,1,1,1,1,1,1,1,1,1,1] (.bool r) ⟨[(0,.rop (Agent.avs a0) 0),(92,.bool u)],[],[]⟩:=by
 unfold DY at h
 exact AI (k2 KJ Dr) h
theorem M4 (a0 r) (h:Ej a0=some r):AC Tryz.prog 71 [.rop (Agent.avs a0) 0] (.bool r):=by
 unfold Ej at h
 refine acF Tryz.func71 mixed (h:=Z ?_)
 exact AI (k3 Dr MZ KL) h
theorem O9 (a0 r) (h:GK a0=some r):AC Tryz.prog 50 [.rop (Agent.avs a0) 0] (.bool r):=by
 unfold GK at h
 refine acF Tryz.func50 mixed (h:=Z ?_)
 exact AI (k4 OZ RA O8 M4) h
theorem KM (n:Nat):(∀a0 u r,Bc n a0 u=some r→BE Tryz.prog Tryz.f28 [1,1,0,1,0] (.bool r) ⟨[(0,.ro (a0.map Agent.ds)),(3,.int .i64 u)],[],[]⟩)∧
    (∀a0 u w r,Cd n a0 u w=some r→BE Tryz.prog Tryz.f28 [1,1,0,1,0,0,1,0,0,1] (.bool r) ⟨[(0,.ro (a0.map Agent.ds)),(3,.int .i64 u),(29,.bool w)],[],[]⟩):=by
 induction n with
 |zero=>exact⟨(fun _ _ _ h=>by rw [Bc] at h; cases h),(fun _ _ _ _ h=>by rw [Cd] at h; cases h)⟩
 | succ n ih=>
  obtain⟨ih0,ih1⟩:=ih
  refine⟨?_,?_⟩
  ·intro a0 u r h
   rw [Bc] at h
   exact AI (k2 O9 ih1) h
  ·intro a0 u w r h
   rw [Cd] at h
   exact AI (k1 ih0) h
def LO (n:Nat):=(KM n).1
theorem Oa (a0 r) (h:FF a0=some r):AC Tryz.prog 28 [.ro (a0.map Agent.ds)] (.bool r):=by
 unfold FF at h
 refine acF Tryz.func28 mixed (h:=Z ?_)
 exact AI (k2 Dr LO) h
theorem RC (a0 a1 r) (h:HG a0 a1=some r):AC Tryz.prog 29 [.ro (a0.map Agent.ds),.agg (Port.avs a1)] (.bool r):=by
 unfold HG at h
 refine acF Tryz.func29 mixed (h:=Z ?_)
 exact AI (k1 Dr) h
theorem Ob (n:Nat):(∀a0 u r,Cy n a0 u=some r→BE Tryz.prog Tryz.f14 [1,1,0,1,0] (.bool r) ⟨[(0,.rop [.ro (a0.agents.map Agent.ds)] 0),(3,.int .i64 u)],[],[]⟩)∧
    (∀a0 u w y r,DD n a0 u w y=some r→BE Tryz.prog Tryz.f14 [1,1,0,1,0,0,1,0,0,1,1,0] (.bool r) ⟨[(0,.rop [.ro (a0.agents.map Agent.ds)] 0),(3,.int .i64 u),(4,.rop (Agent.avs w) 0),(5,.int .i64 y)],[],[]⟩)∧
    (∀a0 u y w q r,DE n a0 u y w q=some r→BE Tryz.prog Tryz.f14 [1,1,0,1,0,0,1,0,0,1,1,0,0,1,0,0,1,1,1] (.bool r) ⟨[(0,.rop [.ro (a0.agents.map Agent.ds)] 0),(3,.int .i64 u),(4,.rop (Agent.avs w) 0),(5,.int .i64 y),(76,.bool q)],[],[]⟩):=by
 induction n with
 |zero=>exact⟨(fun _ _ _ h=>by rw [Cy] at h; cases h),(fun _ _ _ _ _ h=>by rw [DD] at h; cases h),(fun _ _ _ _ _ _ h=>by rw [DE] at h; cases h)⟩
 | succ n ih=>
  obtain⟨ih0,ih1,ih2⟩:=ih
  refine⟨?_,?_,?_⟩
  ·intro a0 u r h
   rw [Cy] at h
   exact AI (k1 ih1) h
  ·intro a0 u w y r h
   rw [DD] at h
   exact AI (k3 ih2 RC ih0) h
  ·intro a0 u y w q r h
   rw [DE] at h
   exact AI (k1 ih1) h
def PA (n:Nat):=(Ob n).1
theorem T8 (a0 r) (h:K0 a0=some r):AC Tryz.prog 14 [.rop (Net.avs a0) 0] (.bool r):=by
 unfold K0 at h
 refine acF Tryz.func14 mixed (h:=Z ?_)
 exact AI (k2 Oa PA) h
end Go.Proofs.YtoncbhomocgmcaaGreatDoor.Ab
