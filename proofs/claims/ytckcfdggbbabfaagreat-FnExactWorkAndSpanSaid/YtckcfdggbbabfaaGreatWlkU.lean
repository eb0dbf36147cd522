/-
 The functions do what their models say. Printed by wip/ab/gen.py.
-/
import Derived.Test.YtckcfdggbbabfaaGreatModU
import Derived.Test.YtckcfdggbbabfaaGreatTi2
import Derived.Test.YtckcfdggbbabfaaGreatWlk
namespace Go.Proofs.YtckcfdggbbabfaaGreat.Ab
set_option linter.unusedVariables false
set_option linter.unusedSimpArgs false
set_option maxRecDepth 20000
set_option maxHeartbeats 4000000
open Go.RowKit
theorem PA (n:Nat):(∀u w y (z1:Option Nat) r,C0 n u w y=some r→DA Tryz.prog Tryz.f120 [1,0,1,0] (.int .i64 r.1) [(1,⟨List.map Port.ds r.2,z1,0,false⟩)] [] ⟨[(0,.own 1),(1,.int .i64 w),(5,.int .i64 y)],[(1,some ⟨List.map Port.ds u,z1,0,false⟩)],[]⟩):=by
 induction n with
 |zero=>exact((fun _ _ _ _ _ h=>by rw [C0] at h; cases h))
 | succ n ih=>
  have ih0:=ih
  ·intro u w y z1 r h
   rw [C0] at h
   refine Av rfl rfl (Z ?_)
   refine AX (Z ?_)
   refine AD h (fun h=>Z ?_) (fun h=>Z ?_)
   ·refine AF ?_
    replace h:=AB h; obtain⟨q,g,h⟩:=h
    refine AM g (Port.ds_len _) (Z ?_)
    replace h:=AB h; obtain⟨j,k,h⟩:=h
    refine AZ (AP g) (Z ?_)
    refine An (List.map Port.ds j) (by rw [← Ao k]; simp only [List.map_set,go_sem,Port.ds_eq]) (Z ?_)
    replace h:=AB h; obtain⟨b,d,h⟩:=h
    refine AM d (Port.ds_len _) (Z ?_)
    replace h:=AB h; obtain⟨c,e,h⟩:=h
    refine AZ (AP d) (Z ?_)
    refine An (List.map Port.ds c) (by rw [← Ao e]; simp only [List.map_set,go_sem,Port.ds_eq]) (Z ?_)
    refine AF ?_
    exact lpG (ih0 c (IntKind.i64.wrap ((IntKind.i64.wrap (w+1))+1)) (IntKind.i64.wrap (y+1)) z1 _ h) [(1,1)] []
   ·refine AF ?_
    cases h
    refine A7 (.done _) [(1,1)] [] ?_
    simp only [go_sem]
theorem SI (a0 a1) (z1:Option Nat) (r) (h:H5 a0 a1=some r):AG Tryz.prog 120 [.own 1,.int .i64 a1] [(1,⟨List.map Port.ds a0,z1,0,false⟩)] [] (.int .i64 r.1) [(1,⟨List.map Port.ds r.2,z1,0,false⟩)] [] :=by
 unfold H5 at h
 refine agF Tryz.func120 mixed (h:=Z ?_)
 exact loG (PA fuel a0 a1 0 z1 _ h) [(1,1)] []
theorem N5 (n:Nat):(∀u w y (z1:Option Nat) r,Cf n u w y=some r→DA Tryz.prog Tryz.f71 [1,0,1,0] (.int .i64 r.1) [(1,⟨List.map Agent.ds r.2,z1,0,false⟩)] [] ⟨[(0,.own 1),(1,.int .i64 w),(5,.int .i64 y)],[(1,some ⟨List.map Agent.ds u,z1,0,false⟩)],[]⟩):=by
 induction n with
 |zero=>exact((fun _ _ _ _ _ h=>by rw [Cf] at h; cases h))
 | succ n ih=>
  have ih0:=ih
  ·intro u w y z1 r h
   rw [Cf] at h
   refine Av rfl rfl (Z ?_)
   refine AX (Z ?_)
   refine AD h (fun h=>Z ?_) (fun h=>Z ?_)
   ·refine AF ?_
    replace h:=AB h; obtain⟨q,g,h⟩:=h
    refine AM g (Agent.ds_len _) (Z ?_)
    replace h:=AB h; obtain⟨j,k,h⟩:=h
    refine AZ (AP g) (Z ?_)
    refine An (List.map Agent.ds j) (by rw [← Ao k]; simp only [List.map_set,go_sem,Agent.ds_eq]) (Z ?_)
    replace h:=AB h; obtain⟨b,d,h⟩:=h
    refine AM d (Agent.ds_len _) (Z ?_)
    replace h:=AB h; obtain⟨c,e,h⟩:=h
    refine AZ (AP d) (Z ?_)
    refine An (List.map Agent.ds c) (by rw [← Ao e]; simp only [List.map_set,go_sem,Agent.ds_eq]) (Z ?_)
    replace h:=AB h; obtain⟨i,l,h⟩:=h
    refine AM l (Agent.ds_len _) (Z ?_)
    replace h:=AB h; obtain⟨t,s,h⟩:=h
    refine AZ (AP l) (Z ?_)
    refine An (List.map Agent.ds t) (by rw [← Ao s]; simp only [List.map_set,go_sem,Agent.ds_eq]) (Z ?_)
    replace h:=AB h; obtain⟨o,z,h⟩:=h
    refine AM z (Agent.ds_len _) (Z ?_)
    refine AZ (AP z) (Z ?_)
    replace h:=AB h; obtain⟨u1,u2,h⟩:=h
    replace h:=AB h; obtain⟨u3,u4,h⟩:=h
    refine caG ⟨[(3000176096,.sub 1 0 [(5,Int.toNat y,3)],none)],[(1,3000176096)],[],[],[],true⟩ (IC _ _ none _ u2) (Z ?_)
    refine AZ (DJ (r:=List.map AO o.data) (AP z) (Agent.ds_len _) (by simp only [go_sem,Agent.ds_eq])) (Z ?_)
    refine An ((List.map Agent.ds t).set (Int.toNat y) [.int .i64 o.kind,.int .i64 o.level,.int .i64 o.value,.gone,.sl (List.map Port.ds o.ports)]) ((GT (AP z) (d':=.sl (List.map AO o.data)) (by simp only [go_sem,Agent.ds_eq])).trans (by simp only [go_sem,Agent.ds_eq])) (Z ?_)
    refine BC (T0 (Jz (AP z)) rfl rfl) (Z ?_)
    refine An (List.map Agent.ds u3) (((GT (Jz (AP z)) (d':=.gone) rfl).trans (List.set_set ..)).trans (by rw [← Ao u4]; simp only [List.map_set,go_sem,Agent.ds_eq])) (Z ?_)
    refine AF ?_
    replace h:=AB h; obtain⟨u5,u6,h⟩:=h
    refine AM u6 (Agent.ds_len _) (Z ?_)
    refine AZ (AP u6) (Z ?_)
    replace h:=AB h; obtain⟨u7,u8,h⟩:=h
    replace h:=AB h; obtain⟨u9,u10,h⟩:=h
    refine caG ⟨[(3000192096,.sub 1 0 [(5,Int.toNat y,4)],none)],[(1,3000192096)],[],[],[],true⟩ (SI _ _ none _ u8) (Z ?_)
    refine AZ (DJ (r:=List.map Port.ds u5.ports) (AP u6) (Agent.ds_len _) (by simp only [go_sem,Agent.ds_eq])) (Z ?_)
    refine An ((List.map Agent.ds u3).set (Int.toNat y) [.int .i64 u5.kind,.int .i64 u5.level,.int .i64 u5.value,.sl (List.map AO u5.data),.gone]) ((GT (AP u6) (d':=.sl (List.map Port.ds u5.ports)) (by simp only [go_sem,Agent.ds_eq])).trans (by simp only [go_sem,Agent.ds_eq])) (Z ?_)
    refine BC (T0 (Jz (AP u6)) rfl rfl) (Z ?_)
    refine An (List.map Agent.ds u9) (((GT (Jz (AP u6)) (d':=.gone) rfl).trans (List.set_set ..)).trans (by rw [← Ao u10]; simp only [List.map_set,go_sem,Agent.ds_eq])) (Z ?_)
    refine AF ?_
    exact lpG (ih0 u9 u7.1 (IntKind.i64.wrap (y+1)) z1 _ h) [(1,1)] []
   ·refine AF ?_
    cases h
    refine A7 (.done _) [(1,1)] [] ?_
    simp only [go_sem]
theorem LU (a0 a1) (z1:Option Nat) (r) (h:Fp a0 a1=some r):AG Tryz.prog 71 [.own 1,.int .i64 a1] [(1,⟨List.map Agent.ds a0,z1,0,false⟩)] [] (.int .i64 r.1) [(1,⟨List.map Agent.ds r.2,z1,0,false⟩)] [] :=by
 unfold Fp at h
 refine agF Tryz.func71 mixed (h:=Z ?_)
 exact loG (N5 fuel a0 a1 0 z1 _ h) [(1,1)] []
theorem O5 (a0 a1) (z1:Option Nat) (r) (h:Gl a0 a1=some r):AG Tryz.prog 27 [.agg [.own 1],.int .i64 a1] [(1,⟨List.map Agent.ds a0.agents,z1,0,false⟩)] [] (.int .i64 r.1) [(1,⟨List.map Agent.ds r.2,z1,0,false⟩)] [] :=by
 unfold Gl at h
 refine agF Tryz.func27 mixed (h:=Z ?_)
 replace h:=AB h; obtain⟨u,w,h⟩:=h
 refine caG ⟨[],[(1,1)],[],[],[],true⟩ (LU _ _ z1 _ w) (Z ?_)
 refine AF ?_
 cases h
 refine A7 (.done _) [(1,1)] [] ?_
 simp only [go_sem]
theorem Pp (n:Nat):(∀u w y (z1:Option Nat) r,DY n u w y=some r→DA Tryz.prog Tryz.f26 [1,0,1,0] (.int .i64 r.1) [(1,⟨List.map Net.ds r.2,z1,0,false⟩)] [] ⟨[(0,.own 1),(1,.int .i64 w),(5,.int .i64 y)],[(1,some ⟨List.map Net.ds u,z1,0,false⟩)],[]⟩):=by
 induction n with
 |zero=>exact((fun _ _ _ _ _ h=>by rw [DY] at h; cases h))
 | succ n ih=>
  have ih0:=ih
  ·intro u w y z1 r h
   rw [DY] at h
   refine Av rfl rfl (Z ?_)
   refine AX (Z ?_)
   refine AD h (fun h=>Z ?_) (fun h=>Z ?_)
   ·refine AF ?_
    replace h:=AB h; obtain⟨q,g,h⟩:=h
    refine AM g (Net.ds_len _) (Z ?_)
    refine AZ (AP g) (Z ?_)
    replace h:=AB h; obtain⟨j,k,h⟩:=h
    replace h:=AB h; obtain⟨b,d,h⟩:=h
    refine caG ⟨[(3000080096,.sub 1 0 [(1,Int.toNat y,0)],none)],[(1,3000080096)],[],[],[],true⟩ (LU _ _ none _ k) (Z ?_)
    refine AZ (DJ (r:=List.map Agent.ds q.agents) (AP g) (Net.ds_len _) (by simp only [go_sem,Net.ds_eq])) (Z ?_)
    refine An ((List.map Net.ds u).set (Int.toNat y) [.gone]) ((GT (AP g) (d':=.sl (List.map Agent.ds q.agents)) (by simp only [go_sem,Net.ds_eq])).trans (by simp only [go_sem,Net.ds_eq])) (Z ?_)
    refine BC (T0 (Jz (AP g)) rfl rfl) (Z ?_)
    refine An (List.map Net.ds b) (((GT (Jz (AP g)) (d':=.gone) rfl).trans (List.set_set ..)).trans (by rw [← Ao d]; simp only [List.map_set,go_sem,Net.ds_eq])) (Z ?_)
    refine AF ?_
    exact lpG (ih0 b j.1 (IntKind.i64.wrap (y+1)) z1 _ h) [(1,1)] []
   ·refine AF ?_
    cases h
    refine A7 (.done _) [(1,1)] [] ?_
    simp only [go_sem]
theorem NL (a0 a1) (z1:Option Nat) (r) (h:Fc a0 a1=some r):AG Tryz.prog 26 [.own 1,.int .i64 a1] [(1,⟨List.map Net.ds a0,z1,0,false⟩)] [] (.int .i64 r.1) [(1,⟨List.map Net.ds r.2,z1,0,false⟩)] [] :=by
 unfold Fc at h
 refine agF Tryz.func26 mixed (h:=Z ?_)
 exact loG (Pp fuel a0 a1 0 z1 _ h) [(1,1)] []
theorem UY (a0 a1 r) (h:KP a0 a1=some r):AC Tryz.prog 175 [.ro (List.map Port.ds a0),.int .i64 a1] (.int .i64 r):=by
 unfold KP at h
 refine acF Tryz.func175 mixed (h:=Z ?_)
 refine AD h (fun h=>Z ?_) (fun h=>Z ?_)
 ·cases h
  simp only [go_sem]
 ·refine AF ?_
  cases h
  simp only [go_sem]
theorem UZ (a0 a1 r) (h:Il a0 a1=some r):AC Tryz.prog 104 [.agg (Agent.avs a0),.int .i64 a1] (.int .i64 r):=by
 unfold Il at h
 refine acF Tryz.func104 mixed (h:=Z ?_)
 replace h:=AB h; obtain⟨u,w,h⟩:=h
 refine AH (Sf _ _ _ w) (Z ?_)
 refine AF ?_
 refine AD h (fun h=>Z ?_) (fun h=>Z ?_)
 ·cases h
  simp only [go_sem]
 ·refine AF ?_
  replace h:=AB h; obtain⟨y,q,h⟩:=h
  refine AH (UY _ _ _ q) (Z ?_)
  refine AF ?_
  refine AD h (fun h=>Z ?_) (fun h=>Z ?_)
  ·cases h
   simp only [go_sem]
  ·refine AF ?_
   cases h
   simp only [go_sem]
theorem Pq (n:Nat):(∀a0 u w r,EQ n a0 u w=some r→Al Tryz.prog Tryz.f56 [1,1,1,0,1,0] (.int .i64 r) ⟨[(0,.ro (List.map Agent.ds a0)),(1,.int .i64 u),(5,.int .i64 w)],[],[]⟩):=by
 induction n with
 |zero=>exact((fun _ _ _ _ h=>by rw [EQ] at h; cases h))
 | succ n ih=>
  have ih0:=ih
  ·intro a0 u w r h
   rw [EQ] at h
   refine AN rfl rfl (Z ?_)
   refine AX (Z ?_)
   refine AD h (fun h=>Z ?_) (fun h=>Z ?_)
   ·refine AF ?_
    replace h:=AB h; obtain⟨y,q,h⟩:=h
    refine AM q (Agent.ds_len _) (Z ?_)
    replace h:=AB h; obtain⟨g,j,h⟩:=h
    refine AH (UZ _ _ _ j) (Z ?_)
    refine AF ?_
    refine AD h (fun h=>Z ?_) (fun h=>Z ?_)
    ·cases h
     simp only [go_sem]
    ·refine AF ?_
     exact lpF (ih0 a0 g (IntKind.i64.wrap (w+1)) _ h) [] []
   ·refine AF ?_
    cases h
    simp only [go_sem]
theorem Sm (a0 a1 r) (h:JB a0 a1=some r):AC Tryz.prog 56 [.ro (List.map Agent.ds a0),.int .i64 a1] (.int .i64 r):=by
 unfold JB at h
 refine acF Tryz.func56 mixed (h:=Z ?_)
 refine AD h (fun h=>Z ?_) (fun h=>Z ?_)
 ·cases h
  simp only [go_sem]
 ·refine AF ?_
  exact loF (Pq fuel a0 (IntKind.i64.wrap (a1 - ((List.length a0:Nat):Int))) 0 _ h) [] []
theorem LL (a0 a1 r) (h:IT a0 a1=some r):AC Tryz.prog 14 [.agg (Net.avs a0),.int .i64 a1] (.int .i64 r):=by
 unfold IT at h
 refine acF Tryz.func14 mixed (h:=Z ?_)
 replace h:=AB h; obtain⟨u,w,h⟩:=h
 refine AH (Sm _ _ _ w) (Z ?_)
 refine AF ?_
 refine AD h (fun h=>Z ?_) (fun h=>Z ?_)
 ·cases h
  simp only [go_sem]
 ·refine AF ?_
  cases h
  simp only [go_sem]
theorem SJ (n:Nat):(∀a0 u w r,Fe n a0 u w=some r→Al Tryz.prog Tryz.f13 [1,1,1,0,1,0] (.int .i64 r) ⟨[(0,.ro (List.map Net.ds a0)),(1,.int .i64 u),(5,.int .i64 w)],[],[]⟩):=by
 induction n with
 |zero=>exact((fun _ _ _ _ h=>by rw [Fe] at h; cases h))
 | succ n ih=>
  have ih0:=ih
  ·intro a0 u w r h
   rw [Fe] at h
   refine AN rfl rfl (Z ?_)
   refine AX (Z ?_)
   refine AD h (fun h=>Z ?_) (fun h=>Z ?_)
   ·refine AF ?_
    replace h:=AB h; obtain⟨y,q,h⟩:=h
    refine AM q (Net.ds_len _) (Z ?_)
    replace h:=AB h; obtain⟨g,j,h⟩:=h
    refine AH (LL _ _ _ j) (Z ?_)
    refine AF ?_
    refine AD h (fun h=>Z ?_) (fun h=>Z ?_)
    ·cases h
     simp only [go_sem]
    ·refine AF ?_
     exact lpF (ih0 a0 g (IntKind.i64.wrap (w+1)) _ h) [] []
   ·refine AF ?_
    cases h
    simp only [go_sem]
theorem Mb (a0 a1 r) (h:I9 a0 a1=some r):AC Tryz.prog 13 [.ro (List.map Net.ds a0),.int .i64 a1] (.int .i64 r):=by
 unfold I9 at h
 refine acF Tryz.func13 mixed (h:=Z ?_)
 refine AD h (fun h=>Z ?_) (fun h=>Z ?_)
 ·cases h
  simp only [go_sem]
 ·refine AF ?_
  exact loF (SJ fuel a0 (IntKind.i64.wrap (a1 - ((List.length a0:Nat):Int))) 0 _ h) [] []
theorem WL (a0 r) (h:KQ a0=some r):AC Tryz.prog 218 [.agg (Port.avs a0)] (.agg (Port.rv r)):=by
 unfold KQ at h
 refine acF Tryz.func218 mixed (h:=Z ?_)
 refine AF ?_
 refine AF ?_
 cases h
 simp only [go_sem]
theorem Qh (n:Nat):(∀a0 u w r,Ew n a0 u w=some r→Al Tryz.prog Tryz.f180 [1,1,0,1,0] (.ow (some 2) (List.map Port.ds r)) ⟨[(0,.ro (List.map Port.ds a0)),(3,.own 1000001000),(4,.int .i64 w)],[(1000001000,some ⟨List.map Port.ds u,some 2,0,false⟩)],[]⟩):=by
 induction n with
 |zero=>exact((fun _ _ _ _ h=>by rw [Ew] at h; cases h))
 | succ n ih=>
  have ih0:=ih
  ·intro a0 u w r h
   rw [Ew] at h
   refine AN rfl rfl (Z ?_)
   refine AX (Z ?_)
   refine AD h (fun h=>Z ?_) (fun h=>Z ?_)
   ·refine AF ?_
    replace h:=AB h; obtain⟨y,q,h⟩:=h
    refine AM q (Port.ds_len _) (Z ?_)
    replace h:=AB h; obtain⟨g,j,h⟩:=h
    refine AH (WL _ _ j) (Z ?_)
    replace h:=AB h; obtain⟨k,b,h⟩:=h
    refine AM b (Port.ds_len _) (Z ?_)
    replace h:=AB h; obtain⟨d,c,h⟩:=h
    refine AZ (AP b) (Z ?_)
    refine An (List.map Port.ds d) (by rw [← Ao c]; simp only [List.map_set,go_sem,Port.ds_eq]) (Z ?_)
    refine AF ?_
    exact lpF (ih0 a0 d (IntKind.i64.wrap (w+1)) _ h) [(1000001000,1000001000)] []
   ·refine AF ?_
    cases h
    simp only [go_sem]
theorem Ua (a0 r) (h:KR a0=some r):AC Tryz.prog 180 [.ro (List.map Port.ds a0)] (.ow (some 2) (List.map Port.ds r)):=by
 unfold KR at h
 refine acF Tryz.func180 mixed (h:=Z ?_)
 replace h:=AB h; obtain⟨u,w,h⟩:=h
 have hq_:=Gz w
 obtain⟨hv2002a,hv2002b,hv2002c⟩:=hq_
 refine BC (by refine⟨?_,?_,?_⟩ <;> omega) (Z ?_)
 refine An (List.map Port.ds u) (by rw [← hv2002c]; simp only [List.map_replicate,go_sem,Port.ds_eq]) (Z ?_)
 refine AF ?_
 exact loF (Qh fuel a0 u 0 _ h) [(1000001000,32032)] []
theorem Ub (a0 r) (h:Im a0=some r):AC Tryz.prog 110 [.agg (Agent.avs a0)] (.agg (Agent.rv r)):=by
 unfold Im at h
 refine acF Tryz.func110 mixed (h:=Z ?_)
 refine AF ?_
 refine AF ?_
 replace h:=AB h; obtain⟨u,w,h⟩:=h
 refine AH (Sg _ _ w) (Z ?_)
 refine AF ?_
 replace h:=AB h; obtain⟨y,q,h⟩:=h
 refine AH (Ua _ _ q) (Z ?_)
 refine AF ?_
 cases h
 simp only [go_sem]
theorem Ps (n:Nat):(∀a0 u w r,ER n a0 u w=some r→Al Tryz.prog Tryz.f63 [1,1,0,1,0] (.ow (some 5) (List.map Agent.ds r)) ⟨[(0,.ro (List.map Agent.ds a0)),(3,.own 1000001000),(4,.int .i64 w)],[(1000001000,some ⟨List.map Agent.ds u,some 5,0,false⟩)],[]⟩):=by
 induction n with
 |zero=>exact((fun _ _ _ _ h=>by rw [ER] at h; cases h))
 | succ n ih=>
  have ih0:=ih
  ·intro a0 u w r h
   rw [ER] at h
   refine AN rfl rfl (Z ?_)
   refine AX (Z ?_)
   refine AD h (fun h=>Z ?_) (fun h=>Z ?_)
   ·refine AF ?_
    replace h:=AB h; obtain⟨y,q,h⟩:=h
    refine AM q (Agent.ds_len _) (Z ?_)
    replace h:=AB h; obtain⟨g,j,h⟩:=h
    refine AH (Ub _ _ j) (Z ?_)
    replace h:=AB h; obtain⟨k,b,h⟩:=h
    refine AM b (Agent.ds_len _) (Z ?_)
    replace h:=AB h; obtain⟨d,c,h⟩:=h
    refine AZ (AP b) (Z ?_)
    refine An (List.map Agent.ds d) (by rw [← Ao c]; simp only [List.map_set,go_sem,Agent.ds_eq]) (Z ?_)
    refine AF ?_
    exact lpF (ih0 a0 d (IntKind.i64.wrap (w+1)) _ h) [(1000001000,1000001000)] []
   ·refine AF ?_
    cases h
    simp only [go_sem]
theorem Sn (a0 r) (h:JC a0=some r):AC Tryz.prog 63 [.ro (List.map Agent.ds a0)] (.ow (some 5) (List.map Agent.ds r)):=by
 unfold JC at h
 refine acF Tryz.func63 mixed (h:=Z ?_)
 replace h:=AB h; obtain⟨u,w,h⟩:=h
 have hq_:=Gz w
 obtain⟨hv2002a,hv2002b,hv2002c⟩:=hq_
 refine BC (by refine⟨?_,?_,?_⟩ <;> omega) (Z ?_)
 refine An (List.map Agent.ds u) (by rw [← hv2002c]; simp only [List.map_replicate,go_sem,Agent.ds_eq]) (Z ?_)
 refine AF ?_
 exact loF (Ps fuel a0 u 0 _ h) [(1000001000,32032)] []
theorem DE (a0 r) (h:C5 a0=some r):AC Tryz.prog 18 [.agg (Net.avs a0)] (.agg (Net.rv r)):=by
 unfold C5 at h
 refine acF Tryz.func18 mixed (h:=Z ?_)
 refine AF ?_
 refine AF ?_
 replace h:=AB h; obtain⟨u,w,h⟩:=h
 refine AH (Sn _ _ w) (Z ?_)
 refine AF ?_
 cases h
 simp only [go_sem]
theorem SK (n:Nat):(∀a0 u w r,Ff n a0 u w=some r→Al Tryz.prog Tryz.f17 [1,1,0,1,0] (.ow (some 1) (List.map Net.ds r)) ⟨[(0,.ro (List.map Net.ds a0)),(3,.own 1000001000),(4,.int .i64 w)],[(1000001000,some ⟨List.map Net.ds u,some 1,0,false⟩)],[]⟩):=by
 induction n with
 |zero=>exact((fun _ _ _ _ h=>by rw [Ff] at h; cases h))
 | succ n ih=>
  have ih0:=ih
  ·intro a0 u w r h
   rw [Ff] at h
   refine AN rfl rfl (Z ?_)
   refine AX (Z ?_)
   refine AD h (fun h=>Z ?_) (fun h=>Z ?_)
   ·refine AF ?_
    replace h:=AB h; obtain⟨y,q,h⟩:=h
    refine AM q (Net.ds_len _) (Z ?_)
    replace h:=AB h; obtain⟨g,j,h⟩:=h
    refine AH (DE _ _ j) (Z ?_)
    replace h:=AB h; obtain⟨k,b,h⟩:=h
    refine AM b (Net.ds_len _) (Z ?_)
    replace h:=AB h; obtain⟨d,c,h⟩:=h
    refine AZ (AP b) (Z ?_)
    refine An (List.map Net.ds d) (by rw [← Ao c]; simp only [List.map_set,go_sem,Net.ds_eq]) (Z ?_)
    refine AF ?_
    exact lpF (ih0 a0 d (IntKind.i64.wrap (w+1)) _ h) [(1000001000,1000001000)] []
   ·refine AF ?_
    cases h
    simp only [go_sem]
theorem C3 (a0 r) (h:Ck a0=some r):AC Tryz.prog 17 [.ro (List.map Net.ds a0)] (.ow (some 1) (List.map Net.ds r)):=by
 unfold Ck at h
 refine acF Tryz.func17 mixed (h:=Z ?_)
 replace h:=AB h; obtain⟨u,w,h⟩:=h
 have hq_:=Gz w
 obtain⟨hv2002a,hv2002b,hv2002c⟩:=hq_
 refine BC (by refine⟨?_,?_,?_⟩ <;> omega) (Z ?_)
 refine An (List.map Net.ds u) (by rw [← hv2002c]; simp only [List.map_replicate,go_sem,Net.ds_eq]) (Z ?_)
 refine AF ?_
 exact loF (SK fuel a0 u 0 _ h) [(1000001000,32032)] []
theorem WM (a0 a1 r) (h:KS a0 a1=some r):AC Tryz.prog 222 [.agg (Port.avs a0),.agg (Port.avs a1)] (.bool r):=by
 unfold KS at h
 refine acF Tryz.func222 mixed (h:=Z ?_)
 refine AD h (fun h=>Z ?_) (fun h=>Z ?_)
 ·cases h
  simp only [go_sem]
 ·refine AF ?_
  refine AD h (fun h=>Z ?_) (fun h=>Z ?_)
  ·cases h
   simp only [go_sem]
  ·refine AF ?_
   cases h
   simp only [go_sem]
theorem Qi (n:Nat):(∀a0 a1 u r,Ex n a0 a1 u=some r→Al Tryz.prog Tryz.f187 [1,1,0,1,0] (.bool r) ⟨[(0,.ro (List.map Port.ds a0)),(1,.ro (List.map Port.ds a1)),(5,.int .i64 u)],[],[]⟩):=by
 induction n with
 |zero=>exact((fun _ _ _ _ h=>by rw [Ex] at h; cases h))
 | succ n ih=>
  have ih0:=ih
  ·intro a0 a1 u r h
   rw [Ex] at h
   refine AN rfl rfl (Z ?_)
   refine AX (Z ?_)
   refine AD h (fun h=>Z ?_) (fun h=>Z ?_)
   ·refine AF ?_
    refine AY [] .fin (by kernel_rfl) (Z ?_)
    replace h:=AB h; obtain⟨w,y,h⟩:=h
    refine AM y (Port.ds_len _) (Z ?_)
    replace h:=AB h; obtain⟨q,g,h⟩:=h
    refine AM g (Port.ds_len _) (Z ?_)
    replace h:=AB h; obtain⟨j,k,h⟩:=h
    refine AH (WM _ _ _ k) (Z ?_)
    refine AF ?_
    refine AD h (fun h=>Z ?_) (fun h=>Z ?_)
    ·cases h
     simp only [go_sem]
    ·refine AF ?_
     exact lpF (ih0 a0 a1 (IntKind.i64.wrap (u+1)) _ h) [] []
   ·refine AF ?_
    cases h
    simp only [go_sem]
theorem Uc (a0 a1 r) (h:KU a0 a1=some r):AC Tryz.prog 187 [.ro (List.map Port.ds a0),.ro (List.map Port.ds a1)] (.bool r):=by
 unfold KU at h
 refine acF Tryz.func187 mixed (h:=Z ?_)
 refine AD h (fun h=>Z ?_) (fun h=>Z ?_)
 ·cases h
  simp only [go_sem]
 ·refine AF ?_
  exact loF (Qi fuel a0 a1 0 _ h) [] []
theorem Ud (a0 a1 r) (h:In a0 a1=some r):AC Tryz.prog 119 [.agg (Agent.avs a0),.agg (Agent.avs a1)] (.bool r):=by
 unfold In at h
 refine acF Tryz.func119 mixed (h:=Z ?_)
 refine AD h (fun h=>Z ?_) (fun h=>Z ?_)
 ·cases h
  simp only [go_sem]
 ·refine AF ?_
  refine AD h (fun h=>Z ?_) (fun h=>Z ?_)
  ·cases h
   simp only [go_sem]
  ·refine AF ?_
   refine AD h (fun h=>Z ?_) (fun h=>Z ?_)
   ·cases h
    simp only [go_sem]
   ·refine AF ?_
    replace h:=AB h; obtain⟨u,w,h⟩:=h
    refine AH (GK _ _ _ w) (Z ?_)
    refine AF ?_
    refine AD h (fun h=>Z ?_) (fun h=>Z ?_)
    ·cases h
     simp only [go_sem]
    ·refine AF ?_
     replace h:=AB h; obtain⟨y,q,h⟩:=h
     refine AH (Uc _ _ _ q) (Z ?_)
     refine AF ?_
     refine AD h (fun h=>Z ?_) (fun h=>Z ?_)
     ·cases h
      simp only [go_sem]
     ·refine AF ?_
      cases h
      simp only [go_sem]
theorem Pt (n:Nat):(∀a0 a1 u r,ES n a0 a1 u=some r→Al Tryz.prog Tryz.f69 [1,1,0,1,0] (.bool r) ⟨[(0,.ro (List.map Agent.ds a0)),(1,.ro (List.map Agent.ds a1)),(5,.int .i64 u)],[],[]⟩):=by
 induction n with
 |zero=>exact((fun _ _ _ _ h=>by rw [ES] at h; cases h))
 | succ n ih=>
  have ih0:=ih
  ·intro a0 a1 u r h
   rw [ES] at h
   refine AN rfl rfl (Z ?_)
   refine AX (Z ?_)
   refine AD h (fun h=>Z ?_) (fun h=>Z ?_)
   ·refine AF ?_
    refine AY [] .fin (by kernel_rfl) (Z ?_)
    replace h:=AB h; obtain⟨w,y,h⟩:=h
    refine AM y (Agent.ds_len _) (Z ?_)
    replace h:=AB h; obtain⟨q,g,h⟩:=h
    refine AM g (Agent.ds_len _) (Z ?_)
    replace h:=AB h; obtain⟨j,k,h⟩:=h
    refine AH (Ud _ _ _ k) (Z ?_)
    refine AF ?_
    refine AD h (fun h=>Z ?_) (fun h=>Z ?_)
    ·cases h
     simp only [go_sem]
    ·refine AF ?_
     exact lpF (ih0 a0 a1 (IntKind.i64.wrap (u+1)) _ h) [] []
   ·refine AF ?_
    cases h
    simp only [go_sem]
theorem So (a0 a1 r) (h:JD a0 a1=some r):AC Tryz.prog 69 [.ro (List.map Agent.ds a0),.ro (List.map Agent.ds a1)] (.bool r):=by
 unfold JD at h
 refine acF Tryz.func69 mixed (h:=Z ?_)
 refine AD h (fun h=>Z ?_) (fun h=>Z ?_)
 ·cases h
  simp only [go_sem]
 ·refine AF ?_
  exact loF (Pt fuel a0 a1 0 _ h) [] []
theorem LK (a0 a1 r) (h:GM a0 a1=some r):AC Tryz.prog 23 [.agg (Net.avs a0),.agg (Net.avs a1)] (.bool r):=by
 unfold GM at h
 refine acF Tryz.func23 mixed (h:=Z ?_)
 replace h:=AB h; obtain⟨u,w,h⟩:=h
 refine AH (So _ _ _ w) (Z ?_)
 refine AF ?_
 refine AD h (fun h=>Z ?_) (fun h=>Z ?_)
 ·cases h
  simp only [go_sem]
 ·refine AF ?_
  cases h
  simp only [go_sem]
theorem SL (n:Nat):(∀a0 a1 u r,Fg n a0 a1 u=some r→Al Tryz.prog Tryz.f22 [1,1,0,1,0] (.bool r) ⟨[(0,.ro (List.map Net.ds a0)),(1,.ro (List.map Net.ds a1)),(5,.int .i64 u)],[],[]⟩):=by
 induction n with
 |zero=>exact((fun _ _ _ _ h=>by rw [Fg] at h; cases h))
 | succ n ih=>
  have ih0:=ih
  ·intro a0 a1 u r h
   rw [Fg] at h
   refine AN rfl rfl (Z ?_)
   refine AX (Z ?_)
   refine AD h (fun h=>Z ?_) (fun h=>Z ?_)
   ·refine AF ?_
    refine AY [] .fin (by kernel_rfl) (Z ?_)
    replace h:=AB h; obtain⟨w,y,h⟩:=h
    refine AM y (Net.ds_len _) (Z ?_)
    replace h:=AB h; obtain⟨q,g,h⟩:=h
    refine AM g (Net.ds_len _) (Z ?_)
    replace h:=AB h; obtain⟨j,k,h⟩:=h
    refine AH (LK _ _ _ k) (Z ?_)
    refine AF ?_
    refine AD h (fun h=>Z ?_) (fun h=>Z ?_)
    ·cases h
     simp only [go_sem]
    ·refine AF ?_
     exact lpF (ih0 a0 a1 (IntKind.i64.wrap (u+1)) _ h) [] []
   ·refine AF ?_
    cases h
    simp only [go_sem]
theorem Ma (a0 a1 r) (h:GC a0 a1=some r):AC Tryz.prog 22 [.ro (List.map Net.ds a0),.ro (List.map Net.ds a1)] (.bool r):=by
 unfold GC at h
 refine acF Tryz.func22 mixed (h:=Z ?_)
 refine AD h (fun h=>Z ?_) (fun h=>Z ?_)
 ·cases h
  simp only [go_sem]
 ·refine AF ?_
  exact loF (SL fuel a0 a1 0 _ h) [] []
theorem MW (a0 r) (h:H2 a0=some r):AC Tryz.prog 108 [.ro (List.map AO a0)] (.ow (some 1) (List.map AO r)):=by
 unfold H2 at h
 refine acF Tryz.func108 mixed (h:=Z ?_)
 replace h:=AB h; obtain⟨u,w,h⟩:=h
 have hq_:=A5 w
 obtain⟨hv2002a,hv2002b⟩:=hq_
 refine Di false (Z ?_)
 refine BC (G0 (by intro x; exact⟨rfl,by simp [go_sem,D.flat]⟩) _) (Z ?_)
 refine BC (by refine⟨?_,?_⟩ <;> (try simp only [List.length_map,List.length_append,List.length_cons,List.length_nil] at*) <;> (try unfold maxLen) <;> omega) (Z ?_)
 refine An (List.map AO u) (by rw [← hv2002b]; simp only [List.map_append,List.map_cons,List.map_nil,List.nil_append,List.append_nil,go_sem,slD]) (Z ?_)
 refine AF ?_
 cases h
 simp only [go_sem]
theorem Df (a0 r) (h:s_l11OwnAgent a0=some r):AC Tryz.prog 122 [.rop (Agent.avs a0) 0] (.agg (Agent.rv r)):=by
 unfold s_l11OwnAgent at h
 refine acF Tryz.func122 mixed (h:=Z ?_)
 refine AF ?_
 refine AY [false,false,false,false,false,false,false,false,false,false,false,false,false,false,false,false,false,false,false,false,false,false,false,false,true] (Tr.sq [24] .fin) (by kernel_rfl) (Z ?_)
 replace h:=AB h; obtain⟨u,w,h⟩:=h
 refine AH (MW _ _ w) (Z ?_)
 replace h:=AB h; obtain⟨y,q,h⟩:=h
 have hq_:=A5 q
 obtain⟨hv2022a,hv2022b⟩:=hq_
 refine BC (by rfl) (Z ?_)
 refine Di false (Z ?_)
 refine BC (G0 (by intro x; exact⟨(Port.ds_len _),by simp [Port.ds_eq,D.flat]⟩) _) (Z ?_)
 refine BC (by refine⟨?_,?_⟩ <;> (try simp only [List.length_map,List.length_append,List.length_cons,List.length_nil] at*) <;> (try unfold maxLen) <;> omega) (Z ?_)
 refine An (List.map Port.ds y) (by rw [← hv2022b]; simp only [List.nil_append]) (Z ?_)
 refine AF ?_
 cases h
 simp only [go_sem]
theorem J6 (n:Nat):(∀ (a0:List Int) (u:Int) (f1:(Int→Option Bool)) (g1:FuncId) (c1:List AV) (s1:Still c1) (h1:∀ (y0:Int) (q:Bool),f1 y0=some q→AC Tryz.prog g1 (.int .i64 y0::c1) (.bool q)) (r:Int),BX n a0 u f1=some r→Al Tryz.prog Tryz.f219 [1,0,1,0] (.int .i64 r) ⟨[(0,.ro (List.map AO a0)),(1,.fn g1 c1),(7,.int .i64 ((List.length a0:Nat):Int)),(8,.int .i64 u)],[],[]⟩):=by
 induction n with
 |zero=>exact((fun _ _ _ _ _ _ _ _ h=>by rw [BX] at h; cases h))
 | succ n ih=>
  have ih0:=ih
  ·intro a0 u f1 g1 c1 s1 h1 r h
   rw [BX] at h
   refine AN rfl rfl ?_
   try simp only [go_sem,s1.k,s1.r,s1.c,s1.p]
   refine AX ?_
   try simp only [go_sem,s1.k,s1.r,s1.c,s1.p]
   refine AD h (fun h=>?_) (fun h=>?_)
   ·try simp only [go_sem,s1.k,s1.r,s1.c,s1.p]
    refine F3 ?_
    try simp only [go_sem,s1.k,s1.r,s1.c,s1.p]
    replace h:=AB h; obtain⟨w,y,h⟩:=h
    refine AM y rfl ?_
    try simp only [go_sem,s1.k,s1.r,s1.c,s1.p]
    replace h:=AB h; obtain⟨g,j,h⟩:=h
    refine AH (h1 _ _ j) ?_
    try simp only [go_sem,s1.k,s1.r,s1.c,s1.p]
    refine F3 ?_
    try simp only [go_sem,s1.k,s1.r,s1.c,s1.p]
    refine AD h (fun h=>?_) (fun h=>?_)
    ·try simp only [go_sem,s1.k,s1.r,s1.c,s1.p]
     cases h
     simp only [go_sem,s1.k,s1.r,s1.c,s1.p]
    ·try simp only [go_sem,s1.k,s1.r,s1.c,s1.p]
     refine F3 ?_
     try simp only [go_sem,s1.k,s1.r,s1.c,s1.p]
     refine TR (DK rfl rfl (ih0 a0 (IntKind.i64.wrap (u+1)) f1 g1 c1 s1 h1 _ h):) (.one ⟨_,.done _,[],[],?_⟩)
     try simp only [go_sem,s1.k,s1.r,s1.c,s1.p]
   ·try simp only [go_sem,s1.k,s1.r,s1.c,s1.p]
    refine F3 ?_
    try simp only [go_sem,s1.k,s1.r,s1.c,s1.p]
    cases h
    simp only [go_sem,s1.k,s1.r,s1.c,s1.p]
theorem Lb (a0:List Int) (f1:(Int→Option Bool)) (g1:FuncId) (c1:List AV) (s1:Still c1) (h1:∀ (y0:Int) (q:Bool),f1 y0=some q→AC Tryz.prog g1 (.int .i64 y0::c1) (.bool q)) (r:Int) (h:Ey a0 f1=some r):AC Tryz.prog 219 [.ro (List.map AO a0),.fn g1 c1] (.int .i64 r):=by
 unfold Ey at h
 refine acF Tryz.func219 mixed (h:=?_)
 try simp only [go_sem,s1.k,s1.r,s1.c,s1.p]
 refine Ch (DK rfl rfl (J6 fuel a0 0 f1 g1 c1 s1 h1 _ h):) (.one ⟨_,.done _,[],[],?_⟩)
 try simp only [go_sem,s1.k,s1.r,s1.c,s1.p]
theorem EV (a0:List Int) (f1:(Int→Option Bool)) (g1:FuncId) (c1:List AV) (s1:Still c1) (h1:∀ (y0:Int) (q:Bool),f1 y0=some q→AC Tryz.prog g1 (.int .i64 y0::c1) (.bool q)) (r:Bool) (h:BK a0 f1=some r):AC Tryz.prog 181 [.ro (List.map AO a0),.fn g1 c1] (.bool r):=by
 unfold BK at h
 refine acF Tryz.func181 mixed (h:=?_)
 try simp only [go_sem,s1.k,s1.r,s1.c,s1.p]
 replace h:=AB h; obtain⟨u,w,h⟩:=h
 refine AH (Lb _ _ g1 c1 s1 h1 _ w) ?_
 try simp only [go_sem,s1.k,s1.r,s1.c,s1.p]
 refine F3 ?_
 try simp only [go_sem,s1.k,s1.r,s1.c,s1.p]
 cases h
 simp only [go_sem,s1.k,s1.r,s1.c,s1.p]
theorem Me (a0 r) (h:JE a0=some r):AC Tryz.prog 241 [.int .i64 a0] (.bool r):=by
 unfold JE at h
 refine acF Tryz.func241 mixed (h:=Z ?_)
 refine AD h (fun h=>Z ?_) (fun h=>Z ?_)
 ·refine AF ?_
  cases h
  simp only [go_sem]
 ·refine AF ?_
  cases h
  simp only [go_sem]
theorem IF (a0:Int) (u:Bool) (r:Int) (h:EB a0 u=some r):Al Tryz.prog Tryz.f231 [1,0,0,1,1,1] (.int .i64 r) ⟨[(0,.int .i64 a0),(18,.bool u)],[],[]⟩:=by
 unfold EB at h
 refine AN rfl rfl (Z ?_)
 refine AD h (fun h=>Z ?_) (fun h=>Z ?_)
 ·cases h
  simp only [go_sem]
 ·refine AF ?_
  replace h:=AB h; obtain⟨w,y,h⟩:=h
  refine AZ y (Z ?_)
  cases h
  simp only [go_sem]
theorem IG (a0:Int) (a1:Int) (u:Bool) (r:Int) (h:DO a0 a1 u=some r):Al Tryz.prog Tryz.f231 [1,0,0,1] (.int .i64 r) ⟨[(0,.int .i64 a0),(1,.int .i64 a1),(5,.bool u)],[],[]⟩:=by
 unfold DO at h
 refine AN rfl rfl (Z ?_)
 refine AD h (fun h=>Z ?_) (fun h=>Z ?_)
 ·cases h
  simp only [go_sem]
 ·replace h:=AB h; obtain⟨w,y,h⟩:=h
  refine AH (Me _ _ y) (Z ?_)
  refine AD h (fun h=>Z ?_) (fun h=>Z ?_)
  ·exact AW (IF a0 true _ h) [] []
  ·refine AD h (fun h=>Z ?_) (fun h=>Z ?_)
   ·exact AW (IF a0 true _ h) [] []
   ·exact AW (IF a0 (!decide (a1=0)) _ h) [] []
theorem Ue (a0 a1 r) (h:Gm a0 a1=some r):AC Tryz.prog 231 [.int .i64 a0,.int .i64 a1] (.int .i64 r):=by
 unfold Gm at h
 refine acF Tryz.func231 mixed (h:=Z ?_)
 refine AD h (fun h=>Z ?_) (fun h=>Z ?_)
 ·refine AD h (fun h=>Z ?_) (fun h=>Z ?_)
  ·exact AW (IG a0 a1 (decide (a1≤3)) _ h) [] []
  ·exact AW (IG a0 a1 false _ h) [] []
 ·exact AW (IG a0 a1 false _ h) [] []
theorem Sp (a0 a1 r) (h:JF a0 a1=some r):AC Tryz.prog 232 [.int .i64 a0,.int .i64 a1] (.int .i64 r):=by
 unfold JF at h
 refine acF Tryz.func232 mixed (h:=Z ?_)
 refine AD h (fun h=>Z ?_) (fun h=>Z ?_)
 ·cases h
  simp only [go_sem]
 ·refine AF ?_
  cases h
  simp only [go_sem]
theorem J2 (a0 r) (h:EJ a0=some r):AC Tryz.prog 211 [.int .i64 a0] (.bool r):=by
 unfold EJ at h
 refine acF Tryz.func211 mixed (h:=Z ?_)
 replace h:=AB h; obtain⟨u,w,h⟩:=h
 refine AH (Me _ _ w) (Z ?_)
 refine AD h (fun h=>Z ?_) (fun h=>Z ?_)
 ·refine AD h (fun h=>Z ?_) (fun h=>Z ?_)
  ·refine AD h (fun h=>Z ?_) (fun h=>Z ?_)
   ·refine AF ?_
    cases h
    simp only [go_sem]
   ·refine AF ?_
    cases h
    simp only [go_sem]
  ·refine AF ?_
   cases h
   simp only [go_sem]
 ·refine AF ?_
  cases h
  simp only [go_sem]
theorem On (a0 r) (h:Gg a0=some r):AC Tryz.prog 247 [.int .i64 a0] (.bool r):=by
 unfold Gg at h
 refine acF Tryz.func247 mixed (h:=Z ?_)
 refine AD h (fun h=>Z ?_) (fun h=>Z ?_)
 ·refine AF ?_
  cases h
  simp only [go_sem]
 ·refine AF ?_
  cases h
  simp only [go_sem]
theorem HL (a0 a1 r) (h:DU a0 a1=some r):AC Tryz.prog 233 [.int .i64 a0,.int .i64 a1] (.bool r):=by
 unfold DU at h
 refine acF Tryz.func233 mixed (h:=Z ?_)
 replace h:=AB h; obtain⟨u,w,h⟩:=h
 refine AH (Me _ _ w) (Z ?_)
 refine AD h (fun h=>Z ?_) (fun h=>Z ?_)
 ·refine AD h (fun h=>Z ?_) (fun h=>Z ?_)
  ·refine AF ?_
   cases h
   simp only [go_sem]
  ·replace h:=AB h; obtain⟨y,q,h⟩:=h
   refine AH (J2 _ _ q) (Z ?_)
   refine AD h (fun h=>Z ?_) (fun h=>Z ?_)
   ·replace h:=AB h; obtain⟨g,j,h⟩:=h
    refine AH (On _ _ j) (Z ?_)
    refine AF ?_
    cases h
    simp only [go_sem]
   ·refine AF ?_
    cases h
    simp only [go_sem]
 ·refine AF ?_
  cases h
  simp only [go_sem]
theorem LV (a0 r) (h:Fq a0=some r):AC Tryz.prog 235 [.int .i64 a0] (.bool r):=by
 unfold Fq at h
 refine acF Tryz.func235 mixed (h:=Z ?_)
 refine AD h (fun h=>Z ?_) (fun h=>Z ?_)
 ·refine AF ?_
  cases h
  simp only [go_sem]
 ·refine AF ?_
  cases h
  simp only [go_sem]
theorem PB (a0 r) (h:Fh a0=some r):AC Tryz.prog 234 [.int .i64 a0] (.bool r):=by
 unfold Fh at h
 refine acF Tryz.func234 mixed (h:=Z ?_)
 replace h:=AB h; obtain⟨u,w,h⟩:=h
 refine AH (LV _ _ w) (Z ?_)
 refine AF ?_
 cases h
 simp only [go_sem]
theorem SM (a0 r) (h:Mt a0=some r):AC Tryz.prog 236 [.int .i64 a0] (.bool r):=by
 unfold Mt at h
 refine acF Tryz.func236 mixed (h:=Z ?_)
 refine AD h (fun h=>Z ?_) (fun h=>Z ?_)
 ·refine AF ?_
  cases h
  simp only [go_sem]
 ·refine AF ?_
  cases h
  simp only [go_sem]
theorem LW (a0 r) (h:Fs a0=some r):AC Tryz.prog 237 [.int .i64 a0] (.bool r):=by
 unfold Fs at h
 refine acF Tryz.func237 mixed (h:=Z ?_)
 refine AD h (fun h=>Z ?_) (fun h=>Z ?_)
 ·refine AF ?_
  cases h
  simp only [go_sem]
 ·refine AF ?_
  cases h
  simp only [go_sem]
theorem A6 (u:Bool) (w:Bool) (r:Bool) (h:Au u w=some r):Al Tryz.prog Tryz.f201 [1,1,1,1,1] (.bool r) ⟨[(3,.bool u),(4,.bool w)],[],[]⟩:=by
 unfold Au at h
 refine AN rfl rfl (Z ?_)
 refine AD h (fun h=>Z ?_) (fun h=>Z ?_)
 ·refine AF ?_
  cases h
  simp only [go_sem]
 ·refine AF ?_
  cases h
  simp only [go_sem]
theorem GX (a0:Agent) (u:Bool) (r:Bool) (h:CB a0 u=some r):Al Tryz.prog Tryz.f201 [1,0,1] (.bool r) ⟨[(1,.box 1000000500 0),(32,.bool u)],[],[(1000000500,some [.int .i64 a0.kind,.int .i64 a0.level,.int .i64 a0.value,.ro (List.map AO a0.data),.ro (List.map Port.ds a0.ports)])]⟩:=by
 unfold CB at h
 refine AN rfl rfl (Z ?_)
 refine AD h (fun h=>Z ?_) (fun h=>Z ?_)
 ·cases h
  simp only [go_sem]
 ·refine AF ?_
  refine AY [] .fin (by kernel_rfl) (Z ?_)
  refine AF ?_
  replace h:=AB h; obtain⟨w,y,h⟩:=h
  refine AH (EV _ _ 234 [] (Still.of rfl) (fun y0 q hq=>PB y0  q hq) _ y) (Z ?_)
  refine AF ?_
  refine AD h (fun h=>Z ?_) (fun h=>Z ?_)
  ·replace h:=AB h; obtain⟨g,j,h⟩:=h
   refine AH (SM _ _ j) (Z ?_)
   exact AW (A6 g (decide (((List.length a0.data:Nat):Int)=0)) _ h) [] []
  ·refine AD h (fun h=>Z ?_) (fun h=>Z ?_)
   ·replace h:=AB h; obtain⟨k,b,h⟩:=h
    refine AH (LW _ _ b) (Z ?_)
    exact AW (A6 k (decide (((List.length a0.data:Nat):Int)=0)) _ h) [] []
   ·refine AD h (fun h=>Z ?_) (fun h=>Z ?_)
    ·replace h:=AB h; obtain⟨d,c,h⟩:=h
     refine AH (LW _ _ c) (Z ?_)
     refine AD h (fun h=>Z ?_) (fun h=>Z ?_)
     ·refine AD h (fun h=>Z ?_) (fun h=>Z ?_)
      ·replace h:=AB h; obtain⟨e,i,h⟩:=h
       refine AM i rfl (Z ?_)
       replace h:=AB h; obtain⟨l,t,h⟩:=h
       refine AH (SM _ _ t) (Z ?_)
       refine AF ?_
       cases h
       simp only [go_sem]
      ·refine AF ?_
       cases h
       simp only [go_sem]
     ·refine AF ?_
      cases h
      simp only [go_sem]
    ·refine AD h (fun h=>Z ?_) (fun h=>Z ?_)
     ·refine AD h (fun h=>Z ?_) (fun h=>Z ?_)
      ·exact AW (A6 (decide (a0.value<4)) (decide (((List.length a0.data:Nat):Int)=0)) _ h) [] []
      ·exact AW (A6 false (decide (((List.length a0.data:Nat):Int)=0)) _ h) [] []
     ·refine AD h (fun h=>Z ?_) (fun h=>Z ?_)
      ·refine AD h (fun h=>Z ?_) (fun h=>Z ?_)
       ·refine AD h (fun h=>Z ?_) (fun h=>Z ?_)
        ·exact AW (A6 (decide (a0.value=0)) (!w) _ h) [] []
        ·exact AW (A6 (decide (a0.value=0)) false _ h) [] []
       ·exact AW (A6 (decide (a0.value=0)) false _ h) [] []
      ·refine AD h (fun h=>Z ?_) (fun h=>Z ?_)
       ·refine AD h (fun h=>Z ?_) (fun h=>Z ?_)
        ·exact AW (A6 (decide (a0.value=0)) (!w) _ h) [] []
        ·exact AW (A6 (decide (a0.value=0)) false _ h) [] []
       ·refine AD h (fun h=>Z ?_) (fun h=>Z ?_)
        ·replace h:=AB h; obtain⟨s,o,h⟩:=h
         refine AH (LV _ _ o) (Z ?_)
         exact AW (A6 s (decide (((List.length a0.data:Nat):Int)=0)) _ h) [] []
        ·exact AW (A6 (decide (a0.value=0)) (decide (((List.length a0.data:Nat):Int)=0)) _ h) [] []
theorem Qj (a0 r) (h:HG a0=some r):AC Tryz.prog 201 [.agg (Agent.avs a0)] (.bool r):=by
 unfold HG at h
 refine acF Tryz.func201 mixed (h:=Z ?_)
 refine AY [] .fin (by kernel_rfl) (Z ?_)
 refine AD h (fun h=>Z ?_) (fun h=>Z ?_)
 ·exact AW (GX a0 true _ h) [] [(1000000500,1000)]
 ·replace h:=AB h; obtain⟨u,w,h⟩:=h
  refine AH (Sp _ _ _ w) (Z ?_)
  replace h:=AB h; obtain⟨y,q,h⟩:=h
  refine AH (Ue _ _ _ q) (Z ?_)
  refine AD h (fun h=>Z ?_) (fun h=>Z ?_)
  ·exact AW (GX a0 true _ h) [] [(1000000500,1000)]
  ·replace h:=AB h; obtain⟨g,j,h⟩:=h
   refine AH (HL _ _ _ j) (Z ?_)
   exact AW (GX a0 (!g) _ h) [] [(1000000500,1000)]
theorem N6 (n:Nat):(∀a0 u r,CS n a0 u=some r→Al Tryz.prog Tryz.f152 [1,1,0,1,0] (.bool r) ⟨[(13,.ro (List.map Agent.ds a0)),(14,.int .i64 ((List.length a0:Nat):Int)),(15,.int .i64 u)],[],[]⟩)∧
    (∀a0 u w r,Dp n a0 u w=some r→Al Tryz.prog Tryz.f152 [1,1,0,1,0,0,1,1,0,0,1,1] (.bool r) ⟨[(13,.ro (List.map Agent.ds a0)),(14,.int .i64 ((List.length a0:Nat):Int)),(15,.int .i64 u),(30,.bool w)],[],[]⟩):=by
 induction n with
 |zero=>exact⟨(fun _ _ _ h=>by rw [CS] at h; cases h),(fun _ _ _ _ h=>by rw [Dp] at h; cases h)⟩
 | succ n ih=>
  obtain⟨ih0,ih1⟩:=ih
  refine⟨?_,?_⟩
  ·intro a0 u r h
   rw [CS] at h
   refine AN rfl rfl (Z ?_)
   refine AX (Z ?_)
   refine AD h (fun h=>Z ?_) (fun h=>Z ?_)
   ·refine AF ?_
    replace h:=AB h; obtain⟨y,q,h⟩:=h
    refine AM q (Agent.ds_len _) (Z ?_)
    refine AF ?_
    replace h:=AB h; obtain⟨g,j,h⟩:=h
    refine AH (Qj _ _ j) (Z ?_)
    refine AD h (fun h=>Z ?_) (fun h=>Z ?_)
    ·exact AW (ih1 a0 u true _ h) [] []
    ·exact AW (ih1 a0 u (!((decide (y.kind=1)) == (decide (u=0)))) _ h) [] []
   ·refine AF ?_
    cases h
    simp only [go_sem]
  ·intro a0 u w r h
   rw [Dp] at h
   refine AN rfl rfl (Z ?_)
   refine AD h (fun h=>Z ?_) (fun h=>Z ?_)
   ·cases h
    simp only [go_sem]
   ·refine AF ?_
    exact lpF (ih0 a0 (IntKind.i64.wrap (u+1)) _ h) [] []
theorem PC (n:Nat):(∀a0 u r,CS n a0 u=some r→Al Tryz.prog Tryz.f152 [1,1,0,1,0] (.bool r) ⟨[(13,.ro (List.map Agent.ds a0)),(14,.int .i64 ((List.length a0:Nat):Int)),(15,.int .i64 u)],[],[]⟩):=(N6 n).1
theorem Ju (a0:List Agent) (u:Bool) (r:Bool) (h:Ee a0 u=some r):Al Tryz.prog Tryz.f152 [1,0,1] (.bool r) ⟨[(0,.ro (List.map Agent.ds a0)),(12,.bool u)],[],[]⟩:=by
 unfold Ee at h
 refine AN rfl rfl (Z ?_)
 refine AD h (fun h=>Z ?_) (fun h=>Z ?_)
 ·cases h
  simp only [go_sem]
 ·refine AF ?_
  exact loF (PC fuel a0 0 _ h) [] []
theorem SN (a0 r) (h:H6 a0=some r):AC Tryz.prog 152 [.ro (List.map Agent.ds a0)] (.bool r):=by
 unfold H6 at h
 refine acF Tryz.func152 mixed (h:=Z ?_)
 refine AD h (fun h=>Z ?_) (fun h=>Z ?_)
 ·exact AW (Ju a0 true _ h) [] []
 ·exact AW (Ju a0 (decide (600<((List.length a0:Nat):Int))) _ h) [] []
theorem II (n:Nat):(∀ (a0:List Port) (u:Int) (f1:(Port→Option Bool)) (g1:FuncId) (c1:List AV) (s1:Still c1) (h1:∀ (y0:Port) (q:Bool),f1 y0=some q→AC Tryz.prog g1 (.agg (Port.avs y0)::c1) (.bool q)) (r:Int),BB n a0 u f1=some r→Al Tryz.prog Tryz.f202 [1,0,1,0] (.int .i64 r) ⟨[(0,.ro (List.map Port.ds a0)),(1,.fn g1 c1),(7,.int .i64 ((List.length a0:Nat):Int)),(8,.int .i64 u)],[],[]⟩):=by
 induction n with
 |zero=>exact((fun _ _ _ _ _ _ _ _ h=>by rw [BB] at h; cases h))
 | succ n ih=>
  have ih0:=ih
  ·intro a0 u f1 g1 c1 s1 h1 r h
   rw [BB] at h
   refine AN rfl rfl ?_
   try simp only [go_sem,s1.k,s1.r,s1.c,s1.p]
   refine AX ?_
   try simp only [go_sem,s1.k,s1.r,s1.c,s1.p]
   refine AD h (fun h=>?_) (fun h=>?_)
   ·try simp only [go_sem,s1.k,s1.r,s1.c,s1.p]
    refine F3 ?_
    try simp only [go_sem,s1.k,s1.r,s1.c,s1.p]
    replace h:=AB h; obtain⟨w,y,h⟩:=h
    refine AM y (Port.ds_len _) ?_
    try simp only [go_sem,s1.k,s1.r,s1.c,s1.p]
    replace h:=AB h; obtain⟨g,j,h⟩:=h
    refine AH (h1 _ _ j) ?_
    try simp only [go_sem,s1.k,s1.r,s1.c,s1.p]
    refine F3 ?_
    try simp only [go_sem,s1.k,s1.r,s1.c,s1.p]
    refine AD h (fun h=>?_) (fun h=>?_)
    ·try simp only [go_sem,s1.k,s1.r,s1.c,s1.p]
     cases h
     simp only [go_sem,s1.k,s1.r,s1.c,s1.p]
    ·try simp only [go_sem,s1.k,s1.r,s1.c,s1.p]
     refine F3 ?_
     try simp only [go_sem,s1.k,s1.r,s1.c,s1.p]
     refine TR (DK rfl rfl (ih0 a0 (IntKind.i64.wrap (u+1)) f1 g1 c1 s1 h1 _ h):) (.one ⟨_,.done _,[],[],?_⟩)
     try simp only [go_sem,s1.k,s1.r,s1.c,s1.p]
   ·try simp only [go_sem,s1.k,s1.r,s1.c,s1.p]
    refine F3 ?_
    try simp only [go_sem,s1.k,s1.r,s1.c,s1.p]
    cases h
    simp only [go_sem,s1.k,s1.r,s1.c,s1.p]
theorem Jc (a0:List Port) (f1:(Port→Option Bool)) (g1:FuncId) (c1:List AV) (s1:Still c1) (h1:∀ (y0:Port) (q:Bool),f1 y0=some q→AC Tryz.prog g1 (.agg (Port.avs y0)::c1) (.bool q)) (r:Int) (h:DP a0 f1=some r):AC Tryz.prog 202 [.ro (List.map Port.ds a0),.fn g1 c1] (.int .i64 r):=by
 unfold DP at h
 refine acF Tryz.func202 mixed (h:=?_)
 try simp only [go_sem,s1.k,s1.r,s1.c,s1.p]
 refine Ch (DK rfl rfl (II fuel a0 0 f1 g1 c1 s1 h1 _ h):) (.one ⟨_,.done _,[],[],?_⟩)
 try simp only [go_sem,s1.k,s1.r,s1.c,s1.p]
theorem IJ (a0:List Port) (f1:(Port→Option Bool)) (g1:FuncId) (c1:List AV) (s1:Still c1) (h1:∀ (y0:Port) (q:Bool),f1 y0=some q→AC Tryz.prog g1 (.agg (Port.avs y0)::c1) (.bool q)) (r:Bool) (h:Bm a0 f1=some r):AC Tryz.prog 153 [.ro (List.map Port.ds a0),.fn g1 c1] (.bool r):=by
 unfold Bm at h
 refine acF Tryz.func153 mixed (h:=?_)
 try simp only [go_sem,s1.k,s1.r,s1.c,s1.p]
 replace h:=AB h; obtain⟨u,w,h⟩:=h
 refine AH (Jc _ _ g1 c1 s1 h1 _ w) ?_
 try simp only [go_sem,s1.k,s1.r,s1.c,s1.p]
 refine F3 ?_
 try simp only [go_sem,s1.k,s1.r,s1.c,s1.p]
 cases h
 simp only [go_sem,s1.k,s1.r,s1.c,s1.p]
theorem N7 (n:Nat):(∀a0 u w r,B5 n a0 u w=some r→Al Tryz.prog Tryz.f154 [1,1,0,1,0] (.ow (some 2) (List.map Port.ds r)) ⟨[(3,.own 1000000000),(10,.ro (List.map Agent.ds a0.agents)),(11,.int .i64 ((List.length a0.agents:Nat):Int)),(12,.int .i64 w)],[(1000000000,some ⟨List.map Port.ds u,some 2,0,false⟩)],[]⟩)∧
    (∀a0 w y q g r,C1 n a0 w y q g=some r→Al Tryz.prog Tryz.f154 [1,1,0,1,0,0,1,1,0,0,1,1,0] (.ow (some 2) (List.map Port.ds r)) ⟨[(3,.own 1000004000),(4,.int .i64 w),(10,.ro (List.map Agent.ds a0.agents)),(11,.int .i64 ((List.length a0.agents:Nat):Int)),(12,.int .i64 w),(19,.int .i64 ((List.length y.ports:Nat):Int)),(20,.int .i64 g)],[(1000004000,some ⟨List.map Port.ds q,some 2,0,false⟩)],[]⟩):=by
 induction n with
 |zero=>exact⟨(fun _ _ _ _ h=>by rw [B5] at h; cases h),(fun _ _ _ _ _ _ h=>by rw [C1] at h; cases h)⟩
 | succ n ih=>
  obtain⟨ih0,ih1⟩:=ih
  refine⟨?_,?_⟩
  ·intro a0 u w r h
   rw [B5] at h
   refine AN rfl rfl (Z ?_)
   refine AX (Z ?_)
   refine AD h (fun h=>Z ?_) (fun h=>Z ?_)
   ·refine AF ?_
    replace h:=AB h; obtain⟨y,j,h⟩:=h
    refine AM j (Agent.ds_len _) (Z ?_)
    refine AF ?_
    exact loF (ih1 a0 w y u 0 _ h) [(1000004000,1000000000)] []
   ·refine AF ?_
    cases h
    simp only [go_sem]
  ·intro a0 w y q g r h
   rw [C1] at h
   refine AN rfl rfl (Z ?_)
   refine AX (Z ?_)
   refine AD h (fun h=>Z ?_) (fun h=>Z ?_)
   ·refine AF ?_
    replace h:=AB h; obtain⟨k,b,h⟩:=h
    have hq_:=A5 b
    obtain⟨hv9005a,hv9005b⟩:=hq_
    refine Di false (Z ?_)
    refine BC (by refine⟨?_,?_⟩ <;> (try simp only [List.length_map,List.length_append,List.length_cons,List.length_nil] at*) <;> (try unfold maxLen) <;> omega) (Z ?_)
    refine An (List.map Port.ds k) (by rw [← hv9005b]; simp only [List.map_append,List.map_cons,List.map_nil,List.nil_append,List.append_nil,go_sem,Port.ds_eq]) (Z ?_)
    refine AF ?_
    exact lpF (ih1 a0 w y k (IntKind.i64.wrap (g+1)) _ h) [(1000004000,144080)] []
   ·refine AF ?_
    exact lpF (ih0 a0 q (IntKind.i64.wrap (w+1)) _ h) [(1000000000,1000004000)] []
theorem PD (n:Nat):(∀a0 u w r,B5 n a0 u w=some r→Al Tryz.prog Tryz.f154 [1,1,0,1,0] (.ow (some 2) (List.map Port.ds r)) ⟨[(3,.own 1000000000),(10,.ro (List.map Agent.ds a0.agents)),(11,.int .i64 ((List.length a0.agents:Nat):Int)),(12,.int .i64 w)],[(1000000000,some ⟨List.map Port.ds u,some 2,0,false⟩)],[]⟩):=(N7 n).1
theorem SO (a0 r) (h:H7 a0=some r):AC Tryz.prog 154 [.rop (Net.avs a0) 0] (.ow (some 2) (List.map Port.ds r)):=by
 unfold H7 at h
 refine acF Tryz.func154 mixed (h:=Z ?_)
 refine Ch (DK rfl rfl (PD fuel a0 [] 0 _ h):) (.one ⟨_,.slot 3 2000000000 (some 2) false (by simp only [go_sem]) (by simp only [go_sem]) (.done _),[(1000000000,2000000000)],[],?_⟩)
 simp only [go_sem]
 all_goals try rfl
theorem FJ (a0 a1 r) (h:DB a0 a1=some r):AC Tryz.prog 156 [.rop (Net.avs a0) 0,.agg (Port.avs a1)] (.agg (Port.rv r)):=by
 unfold DB at h
 refine acF Tryz.func156 mixed (h:=Z ?_)
 refine AF ?_
 refine AY [false,false,false,false,false,false,false,false,false,false,false,false,false,true] (Tr.sq [13] .fin) (by kernel_rfl) (Z ?_)
 replace h:=AB h; obtain⟨u,w,h⟩:=h
 refine AM w (Agent.ds_len _) (Z ?_)
 replace h:=AB h; obtain⟨y,q,h⟩:=h
 refine AM q (Port.ds_len _) (Z ?_)
 refine AF ?_
 cases h
 simp only [go_sem]
theorem Uf (a0 a1 r) (h:KV a0 a1=some r):AC Tryz.prog 157 [.ro (List.map Agent.ds a0),.agg (Port.avs a1)] (.bool r):=by
 unfold KV at h
 refine acF Tryz.func157 mixed (h:=Z ?_)
 refine AY [] .fin (by kernel_rfl) (Z ?_)
 refine AD h (fun h=>Z ?_) (fun h=>Z ?_)
 ·refine AD h (fun h=>Z ?_) (fun h=>Z ?_)
  ·refine AD h (fun h=>Z ?_) (fun h=>Z ?_)
   ·replace h:=AB h; obtain⟨u,w,h⟩:=h
    refine AM w (Agent.ds_len _) (Z ?_)
    refine AF ?_
    cases h
    simp only [go_sem]
   ·refine AF ?_
    cases h
    simp only [go_sem]
  ·refine AF ?_
   cases h
   simp only [go_sem]
 ·refine AF ?_
  cases h
  simp only [go_sem]
theorem Qk (a0 a1 r) (h:HH a0 a1=some r):AC Tryz.prog 155 [.agg (Port.avs a0),.rop (Net.avs a1) 0] (.bool r):=by
 unfold HH at h
 refine acF Tryz.func155 mixed (h:=Z ?_)
 replace h:=AB h; obtain⟨u,w,h⟩:=h
 refine AH (FJ _ _ _ w) (Z ?_)
 refine AF ?_
 refine AY [] .fin (by kernel_rfl) (Z ?_)
 refine AD h (fun h=>Z ?_) (fun h=>Z ?_)
 ·refine AF ?_
  cases h
  simp only [go_sem]
 ·replace h:=AB h; obtain⟨y,q,h⟩:=h
  refine AH (Uf _ _ _ q) (Z ?_)
  refine AD h (fun h=>Z ?_) (fun h=>Z ?_)
  ·refine AF ?_
   cases h
   simp only [go_sem]
  ·replace h:=AB h; obtain⟨g,j,h⟩:=h
   refine AH (FJ _ _ _ j) (Z ?_)
   refine AF ?_
   cases h
   simp only [go_sem]
theorem NN (a0 r) (h:Hb a0=some r):AC Tryz.prog 86 [.agg (Net.avs a0)] (.bool r):=by
 unfold Hb at h
 refine acF Tryz.func86 mixed (h:=Z ?_)
 replace h:=AB h; obtain⟨u,w,h⟩:=h
 refine AH (SN _ _ w) (Z ?_)
 refine AF ?_
 refine AD h (fun h=>Z ?_) (fun h=>Z ?_)
 ·cases h
  simp only [go_sem]
 ·refine AF ?_
  replace h:=AB h; obtain⟨y,g,h⟩:=h
  refine AH (SO _ _ g) (Z ?_)
  replace h:=AB h; obtain⟨j,k,h⟩:=h
  refine AH (IJ _ _ 155 [.rop [.ro (List.map Agent.ds a0.agents)] 0] (Still.of (by simp only [GQ,HQ,Bool.and_true,Bool.true_and,Bool.and_self])) (fun y0 q hq=>Qk y0 _ q hq) _ k) (Z ?_)
  refine AF ?_
  cases h
  simp only [go_sem]
theorem BY (a0 a1 a2 r) (h:Ci a0 a1 a2=some r):AC Tryz.prog 59 [.int .i64 a0,.int .i64 a1,.int .i64 a2] (.bool r):=by
 unfold Ci at h
 refine acF Tryz.func59 mixed (h:=Z ?_)
 refine AD h (fun h=>Z ?_) (fun h=>Z ?_)
 ·refine AF ?_
  cases h
  simp only [go_sem]
 ·refine AF ?_
  cases h
  simp only [go_sem]
theorem JU (a0 r) (h:Cy a0=some r):AC Tryz.prog 165 [.rop (Agent.avs a0) 0] (.int .i64 r):=by
 unfold Cy at h
 refine acF Tryz.func165 mixed (h:=Z ?_)
 refine AD h (fun h=>Z ?_) (fun h=>Z ?_)
 ·cases h
  simp only [go_sem]
 ·refine AF ?_
  cases h
  simp only [go_sem]
theorem GO (u:Bool) (r:Int) (h:Ez u=some r):Al Tryz.prog Tryz.f228 [1,1,1,0,1,0,1,1,1,1,1] (.int .i64 r) ⟨[(23,.bool u)],[],[]⟩:=by
 unfold Ez at h
 refine AN rfl rfl (Z ?_)
 refine AD h (fun h=>Z ?_) (fun h=>Z ?_)
 ·cases h
  simp only [go_sem]
 ·refine AF ?_
  cases h
  simp only [go_sem]
theorem IK (a0:Int) (u:Bool) (r:Int) (h:Ft a0 u=some r):Al Tryz.prog Tryz.f228 [1,1,1,0,1,0,1,1,1] (.int .i64 r) ⟨[(13,.int .i64 a0),(19,.bool u)],[],[]⟩:=by
 unfold Ft at h
 refine AN rfl rfl (Z ?_)
 refine AD h (fun h=>Z ?_) (fun h=>Z ?_)
 ·cases h
  simp only [go_sem]
 ·refine AD h (fun h=>Z ?_) (fun h=>Z ?_)
  ·exact AW (GO (decide (a0=2)) _ h) [] []
  ·refine AD h (fun h=>Z ?_) (fun h=>Z ?_)
   ·exact AW (GO (decide (a0=3)) _ h) [] []
   ·refine AD h (fun h=>Z ?_) (fun h=>Z ?_)
    ·exact AW (GO (decide (a0=4)) _ h) [] []
    ·exact AW (GO (decide (a0=7)) _ h) [] []
theorem GP (a0:Int) (u:Bool) (r:Int) (h:E0 a0 u=some r):Al Tryz.prog Tryz.f228 [1,1,1,0,1,0,1] (.int .i64 r) ⟨[(13,.int .i64 a0),(14,.bool u)],[],[]⟩:=by
 unfold E0 at h
 refine AN rfl rfl (Z ?_)
 refine AD h (fun h=>Z ?_) (fun h=>Z ?_)
 ·cases h
  simp only [go_sem]
 ·refine AD h (fun h=>Z ?_) (fun h=>Z ?_)
  ·exact AW (IK a0 (decide (a0=8)) _ h) [] []
  ·refine AD h (fun h=>Z ?_) (fun h=>Z ?_)
   ·exact AW (IK a0 (decide (a0=10)) _ h) [] []
   ·exact AW (IK a0 (decide (a0=11)) _ h) [] []
theorem Ug (a0 a1 r) (h:Hc a0 a1=some r):AC Tryz.prog 228 [.int .i64 a0,.int .i64 a1] (.int .i64 r):=by
 unfold Hc at h
 refine acF Tryz.func228 mixed (h:=Z ?_)
 refine AD h (fun h=>Z ?_) (fun h=>Z ?_)
 ·replace h:=AB h; obtain⟨u,w,h⟩:=h
  refine AH (BY _ _ _ _ w) (Z ?_)
  refine AF ?_
  refine AD h (fun h=>Z ?_) (fun h=>Z ?_)
  ·cases h
   simp only [go_sem]
  ·refine AF ?_
   cases h
   simp only [go_sem]
 ·refine AF ?_
  refine AD h (fun h=>Z ?_) (fun h=>Z ?_)
  ·cases h
   simp only [go_sem]
  ·refine AF ?_
   refine AD h (fun h=>Z ?_) (fun h=>Z ?_)
   ·exact AW (GP a0 (decide (a0=1)) _ h) [] []
   ·refine AD h (fun h=>Z ?_) (fun h=>Z ?_)
    ·exact AW (GP a0 (decide (a0=5)) _ h) [] []
    ·refine AD h (fun h=>Z ?_) (fun h=>Z ?_)
     ·exact AW (GP a0 (decide (a0=6)) _ h) [] []
     ·exact AW (GP a0 (decide (a0=12)) _ h) [] []
theorem Bl (u:Bool) (r:Bool) (h:BG u=some r):Al Tryz.prog Tryz.f195 [1,0,1,0,1] (.bool r) ⟨[(4,.bool u)],[],[]⟩:=by
 unfold BG at h
 refine AN rfl rfl (Z ?_)
 refine AD h (fun h=>Z ?_) (fun h=>Z ?_)
 ·cases h
  simp only [go_sem]
 ·refine AF ?_
  cases h
  simp only [go_sem]
theorem J4 (a0 r) (h:EL a0=some r):AC Tryz.prog 195 [.int .i64 a0] (.bool r):=by
 unfold EL at h
 refine acF Tryz.func195 mixed (h:=Z ?_)
 refine AD h (fun h=>Z ?_) (fun h=>Z ?_)
 ·exact AW (Bl (decide (a0=2)) _ h) [] []
 ·refine AD h (fun h=>Z ?_) (fun h=>Z ?_)
  ·exact AW (Bl (decide (a0=3)) _ h) [] []
  ·refine AD h (fun h=>Z ?_) (fun h=>Z ?_)
   ·exact AW (Bl (decide (a0=4)) _ h) [] []
   ·refine AD h (fun h=>Z ?_) (fun h=>Z ?_)
    ·exact AW (Bl (decide (a0=7)) _ h) [] []
    ·refine AD h (fun h=>Z ?_) (fun h=>Z ?_)
     ·exact AW (Bl (decide (a0=8)) _ h) [] []
     ·refine AD h (fun h=>Z ?_) (fun h=>Z ?_)
      ·exact AW (Bl (decide (a0=9)) _ h) [] []
      ·refine AD h (fun h=>Z ?_) (fun h=>Z ?_)
       ·exact AW (Bl (decide (a0=10)) _ h) [] []
       ·refine AD h (fun h=>Z ?_) (fun h=>Z ?_)
        ·exact AW (Bl (decide (a0=11)) _ h) [] []
        ·exact AW (Bl (decide (a0=12)) _ h) [] []
theorem Uh (a0 r) (h:KW a0=some r):AC Tryz.prog 245 [.int .i64 a0] (.bool r):=by
 unfold KW at h
 refine acF Tryz.func245 mixed (h:=Z ?_)
 replace h:=AB h; obtain⟨u,w,h⟩:=h
 refine AH (BY _ _ _ _ w) (Z ?_)
 refine AF ?_
 cases h
 simp only [go_sem]
theorem Ho (a0 a1 r) (h:Eu a0 a1=some r):AC Tryz.prog 229 [.int .i64 a0,.int .i64 a1] (.bool r):=by
 unfold Eu at h
 refine acF Tryz.func229 mixed (h:=Z ?_)
 replace h:=AB h; obtain⟨u,w,h⟩:=h
 refine AH (J4 _ _ w) (Z ?_)
 refine AF ?_
 refine AD h (fun h=>Z ?_) (fun h=>Z ?_)
 ·replace h:=AB h; obtain⟨y,q,h⟩:=h
  refine AH (BY _ _ _ _ q) (Z ?_)
  refine AF ?_
  cases h
  simp only [go_sem]
 ·refine AF ?_
  replace h:=AB h; obtain⟨g,j,h⟩:=h
  refine AH (Uh _ _ j) (Z ?_)
  refine AD h (fun h=>Z ?_) (fun h=>Z ?_)
  ·refine AF ?_
   cases h
   simp only [go_sem]
  ·refine AF ?_
   cases h
   simp only [go_sem]
theorem QM (a0 r) (h:JG a0=some r):AC Tryz.prog 246 [.int .i64 a0] (.bool r):=by
 unfold JG at h
 refine acF Tryz.func246 mixed (h:=Z ?_)
 replace h:=AB h; obtain⟨u,w,h⟩:=h
 refine AH (BY _ _ _ _ w) (Z ?_)
 refine AF ?_
 cases h
 simp only [go_sem]
theorem N8 (n:Nat):(∀a0 u r,Cg n a0 u=some r→Al Tryz.prog Tryz.f230 [1,0,1,0,1,1,1,1,1,1,1,1,1,1,1,0,1,0,1,0] (.bool r) ⟨[(0,.rop [.int .i64 a0.kind,.int .i64 a0.level,.int .i64 a0.value,.ro (List.map AO a0.data),.ro (List.map Port.ds a0.ports)] 0),(3,.int .i64 u)],[],[]⟩):=by
 induction n with
 |zero=>exact((fun _ _ _ h=>by rw [Cg] at h; cases h))
 | succ n ih=>
  have ih0:=ih
  ·intro a0 u r h
   rw [Cg] at h
   refine AN rfl rfl (Z ?_)
   refine AX (Z ?_)
   refine AD h (fun h=>Z ?_) (fun h=>Z ?_)
   ·refine AF ?_
    replace h:=AB h; obtain⟨w,y,h⟩:=h
    refine AM y rfl (Z ?_)
    replace h:=AB h; obtain⟨q,g,h⟩:=h
    refine AH (QM _ _ g) (Z ?_)
    refine AF ?_
    refine AD h (fun h=>Z ?_) (fun h=>Z ?_)
    ·cases h
     simp only [go_sem]
    ·refine AF ?_
     exact lpF (ih0 a0 (IntKind.i64.wrap (u+1)) _ h) [] []
   ·refine AF ?_
    cases h
    simp only [go_sem]
theorem Cp (a0:Agent) (u:Bool) (r:Bool) (h:CC a0 u=some r):Al Tryz.prog Tryz.f230 [1,0,1,0,1,1,1,1,1,1,1,1,1,1,1,0,0,1] (.bool r) ⟨[(0,.rop [.int .i64 a0.kind,.int .i64 a0.level,.int .i64 a0.value,.ro (List.map AO a0.data),.ro (List.map Port.ds a0.ports)] 0),(130,.bool u)],[],[]⟩:=by
 unfold CC at h
 refine AN rfl rfl (Z ?_)
 refine AD h (fun h=>Z ?_) (fun h=>Z ?_)
 ·cases h
  simp only [go_sem]
 ·refine AF ?_
  exact loF (N8 fuel a0 0 _ h) [] []
theorem JX (a0:Agent) (u:Bool) (r:Bool) (h:FA a0 u=some r):Al Tryz.prog Tryz.f230 [1,0,1,0,1,1,1,1,1,1,1,1,1,1,1] (.bool r) ⟨[(0,.rop [.int .i64 a0.kind,.int .i64 a0.level,.int .i64 a0.value,.ro (List.map AO a0.data),.ro (List.map Port.ds a0.ports)] 0),(92,.bool u)],[],[]⟩:=by
 unfold FA at h
 refine AN rfl rfl (Z ?_)
 refine AD h (fun h=>Z ?_) (fun h=>Z ?_)
 ·refine AD h (fun h=>Z ?_) (fun h=>Z ?_)
  ·exact AW (Cp a0 true _ h) [] []
  ·refine AD h (fun h=>Z ?_) (fun h=>Z ?_)
   ·refine AD h (fun h=>Z ?_) (fun h=>Z ?_)
    ·exact AW (Cp a0 true _ h) [] []
    ·refine AD h (fun h=>Z ?_) (fun h=>Z ?_)
     ·replace h:=AB h; obtain⟨w,y,h⟩:=h
      refine AH (BY _ _ _ _ y) (Z ?_)
      exact AW (Cp a0 (!w) _ h) [] []
     ·exact AW (Cp a0 false _ h) [] []
   ·refine AD h (fun h=>Z ?_) (fun h=>Z ?_)
    ·replace h:=AB h; obtain⟨w,y,h⟩:=h
     refine AH (BY _ _ _ _ y) (Z ?_)
     exact AW (Cp a0 (!w) _ h) [] []
    ·exact AW (Cp a0 false _ h) [] []
 ·refine AF ?_
  refine AD h (fun h=>Z ?_) (fun h=>Z ?_)
  ·refine AF ?_
   cases h
   simp only [go_sem]
  ·refine AF ?_
   cases h
   simp only [go_sem]
theorem Ql (a0 r) (h:HI a0=some r):AC Tryz.prog 230 [.rop (Agent.avs a0) 0] (.bool r):=by
 unfold HI at h
 refine acF Tryz.func230 mixed (h:=Z ?_)
 refine AD h (fun h=>Z ?_) (fun h=>Z ?_)
 ·refine AD h (fun h=>Z ?_) (fun h=>Z ?_)
  ·replace h:=AB h; obtain⟨u,w,h⟩:=h
   refine AH (BY _ _ _ _ w) (Z ?_)
   refine AF ?_
   cases h
   simp only [go_sem]
  ·refine AF ?_
   cases h
   simp only [go_sem]
 ·refine AD h (fun h=>Z ?_) (fun h=>Z ?_)
  ·refine AD h (fun h=>Z ?_) (fun h=>Z ?_)
   ·replace h:=AB h; obtain⟨y,q,h⟩:=h
    refine AH (BY _ _ _ _ q) (Z ?_)
    refine AF ?_
    cases h
    simp only [go_sem]
   ·refine AF ?_
    cases h
    simp only [go_sem]
  ·refine AD h (fun h=>Z ?_) (fun h=>Z ?_)
   ·refine AD h (fun h=>Z ?_) (fun h=>Z ?_)
    ·replace h:=AB h; obtain⟨g,j,h⟩:=h
     refine AH (BY _ _ _ _ j) (Z ?_)
     refine AD h (fun h=>Z ?_) (fun h=>Z ?_)
     ·replace h:=AB h; obtain⟨k,b,h⟩:=h
      refine AM b rfl (Z ?_)
      replace h:=AB h; obtain⟨d,c,h⟩:=h
      refine AH (BY _ _ _ _ c) (Z ?_)
      refine AF ?_
      cases h
      simp only [go_sem]
     ·refine AF ?_
      cases h
      simp only [go_sem]
    ·refine AF ?_
     cases h
     simp only [go_sem]
   ·refine AD h (fun h=>Z ?_) (fun h=>Z ?_)
    ·refine AD h (fun h=>Z ?_) (fun h=>Z ?_)
     ·replace h:=AB h; obtain⟨e,i,h⟩:=h
      refine AH (BY _ _ _ _ i) (Z ?_)
      refine AF ?_
      cases h
      simp only [go_sem]
     ·refine AF ?_
      cases h
      simp only [go_sem]
    ·refine AD h (fun h=>Z ?_) (fun h=>Z ?_)
     ·refine AD h (fun h=>Z ?_) (fun h=>Z ?_)
      ·replace h:=AB h; obtain⟨l,t,h⟩:=h
       refine AH (QM _ _ t) (Z ?_)
       refine AF ?_
       cases h
       simp only [go_sem]
      ·refine AF ?_
       cases h
       simp only [go_sem]
     ·refine AD h (fun h=>Z ?_) (fun h=>Z ?_)
      ·exact AW (JX a0 (decide (a0.kind=10)) _ h) [] []
      ·exact AW (JX a0 (decide (a0.kind=11)) _ h) [] []
theorem Sq (a0 r) (h:JH a0=some r):AC Tryz.prog 200 [.rop (Agent.avs a0) 0] (.bool r):=by
 unfold JH at h
 refine acF Tryz.func200 mixed (h:=Z ?_)
 refine AY [] .fin (by kernel_rfl) (Z ?_)
 replace h:=AB h; obtain⟨u,w,h⟩:=h
 refine AH (JU _ _ w) (Z ?_)
 replace h:=AB h; obtain⟨y,q,h⟩:=h
 refine AH (Ug _ _ _ q) (Z ?_)
 refine AF ?_
 refine AY [] .fin (by kernel_rfl) (Z ?_)
 refine AD h (fun h=>Z ?_) (fun h=>Z ?_)
 ·refine AD h (fun h=>Z ?_) (fun h=>Z ?_)
  ·replace h:=AB h; obtain⟨g,j,h⟩:=h
   refine AH (Ho _ _ _ j) (Z ?_)
   refine AD h (fun h=>Z ?_) (fun h=>Z ?_)
   ·replace h:=AB h; obtain⟨k,b,h⟩:=h
    refine AH (Ql _ _ b) (Z ?_)
    refine AF ?_
    cases h
    simp only [go_sem]
   ·refine AF ?_
    cases h
    simp only [go_sem]
  ·refine AF ?_
   cases h
   simp only [go_sem]
 ·refine AF ?_
  cases h
  simp only [go_sem]
theorem N9 (n:Nat):(∀a0 u r,CT n a0 u=some r→Al Tryz.prog Tryz.f150 [1,1,0,1,0] (.bool r) ⟨[(0,.ro (List.map Agent.ds a0)),(3,.int .i64 u)],[],[]⟩)∧
    (∀a0 u w r,Dq n a0 u w=some r→Al Tryz.prog Tryz.f150 [1,1,0,1,0,0,1,0,0,1] (.bool r) ⟨[(0,.ro (List.map Agent.ds a0)),(3,.int .i64 u),(29,.bool w)],[],[]⟩):=by
 induction n with
 |zero=>exact⟨(fun _ _ _ h=>by rw [CT] at h; cases h),(fun _ _ _ _ h=>by rw [Dq] at h; cases h)⟩
 | succ n ih=>
  obtain⟨ih0,ih1⟩:=ih
  refine⟨?_,?_⟩
  ·intro a0 u r h
   rw [CT] at h
   refine AN rfl rfl (Z ?_)
   refine AX (Z ?_)
   refine AD h (fun h=>Z ?_) (fun h=>Z ?_)
   ·refine AF ?_
    replace h:=AB h; obtain⟨y,q,h⟩:=h
    refine AM q (Agent.ds_len _) (Z ?_)
    replace h:=AB h; obtain⟨g,j,h⟩:=h
    refine AH (Sq _ _ j) (Z ?_)
    refine AD h (fun h=>Z ?_) (fun h=>Z ?_)
    ·exact AW (ih1 a0 u true _ h) [] []
    ·replace h:=AB h; obtain⟨k,b,h⟩:=h
     refine AM b (Agent.ds_len _) (Z ?_)
     exact AW (ih1 a0 u (!((decide (k.kind=1)) == (decide (u=0)))) _ h) [] []
   ·refine AF ?_
    cases h
    simp only [go_sem]
  ·intro a0 u w r h
   rw [Dq] at h
   refine AN rfl rfl (Z ?_)
   refine AD h (fun h=>Z ?_) (fun h=>Z ?_)
   ·cases h
    simp only [go_sem]
   ·refine AF ?_
    exact lpF (ih0 a0 (IntKind.i64.wrap (u+1)) _ h) [] []
theorem PE (n:Nat):(∀a0 u r,CT n a0 u=some r→Al Tryz.prog Tryz.f150 [1,1,0,1,0] (.bool r) ⟨[(0,.ro (List.map Agent.ds a0)),(3,.int .i64 u)],[],[]⟩):=(N9 n).1
theorem SP (a0 r) (h:H8 a0=some r):AC Tryz.prog 150 [.ro (List.map Agent.ds a0)] (.bool r):=by
 unfold H8 at h
 refine acF Tryz.func150 mixed (h:=Z ?_)
 replace h:=AB h; obtain⟨u,w,h⟩:=h
 refine AH (BY _ _ _ _ w) (Z ?_)
 refine AF ?_
 refine AD h (fun h=>Z ?_) (fun h=>Z ?_)
 ·cases h
  simp only [go_sem]
 ·refine AF ?_
  exact loF (PE fuel a0 0 _ h) [] []
theorem Ui (a0 a1 r) (h:KX a0 a1=some r):AC Tryz.prog 151 [.ro (List.map Agent.ds a0),.agg (Port.avs a1)] (.bool r):=by
 unfold KX at h
 refine acF Tryz.func151 mixed (h:=Z ?_)
 refine AY [] .fin (by kernel_rfl) (Z ?_)
 replace h:=AB h; obtain⟨u,w,h⟩:=h
 refine AH (BY _ _ _ _ w) (Z ?_)
 refine AD h (fun h=>Z ?_) (fun h=>Z ?_)
 ·replace h:=AB h; obtain⟨y,q,h⟩:=h
  refine AM q (Agent.ds_len _) (Z ?_)
  replace h:=AB h; obtain⟨g,j,h⟩:=h
  refine AH (BY _ _ _ _ j) (Z ?_)
  refine AF ?_
  cases h
  simp only [go_sem]
 ·refine AF ?_
  cases h
  simp only [go_sem]
theorem SQ (n:Nat):(∀a0 u r,ET n a0 u=some r→Al Tryz.prog Tryz.f84 [1,1,0,1,0] (.bool r) ⟨[(0,.rop [.ro (List.map Agent.ds a0.agents)] 0),(3,.int .i64 u)],[],[]⟩)∧
    (∀a0 u w y r,Ep n a0 u w y=some r→Al Tryz.prog Tryz.f84 [1,1,0,1,0,0,1,0,0,1,1,0] (.bool r) ⟨[(0,.rop [.ro (List.map Agent.ds a0.agents)] 0),(3,.int .i64 u),(4,.rop [.int .i64 w.kind,.int .i64 w.level,.int .i64 w.value,.ro (List.map AO w.data),.ro (List.map Port.ds w.ports)] 0),(5,.int .i64 y)],[],[]⟩)∧
    (∀a0 u y w q r,Er n a0 u y w q=some r→Al Tryz.prog Tryz.f84 [1,1,0,1,0,0,1,0,0,1,1,0,0,1,0,0,1,1,1] (.bool r) ⟨[(0,.rop [.ro (List.map Agent.ds a0.agents)] 0),(3,.int .i64 u),(4,.rop [.int .i64 w.kind,.int .i64 w.level,.int .i64 w.value,.ro (List.map AO w.data),.ro (List.map Port.ds w.ports)] 0),(5,.int .i64 y),(76,.bool q)],[],[]⟩):=by
 induction n with
 |zero=>exact⟨(fun _ _ _ h=>by rw [ET] at h; cases h),(fun _ _ _ _ _ h=>by rw [Ep] at h; cases h),(fun _ _ _ _ _ _ h=>by rw [Er] at h; cases h)⟩
 | succ n ih=>
  obtain⟨ih0,ih1,ih2⟩:=ih
  refine⟨?_,?_,?_⟩
  ·intro a0 u r h
   rw [ET] at h
   refine AN rfl rfl (Z ?_)
   refine AX (Z ?_)
   refine AD h (fun h=>Z ?_) (fun h=>Z ?_)
   ·refine AF ?_
    replace h:=AB h; obtain⟨w,g,h⟩:=h
    refine AM g (Agent.ds_len _) (Z ?_)
    exact loF (ih1 a0 u w 0 _ h) [] []
   ·refine AF ?_
    cases h
    simp only [go_sem]
  ·intro a0 u w y r h
   rw [Ep] at h
   refine AN rfl rfl (Z ?_)
   refine AX (Z ?_)
   refine AD h (fun h=>Z ?_) (fun h=>Z ?_)
   ·refine AF ?_
    refine AF ?_
    replace h:=AB h; obtain⟨j,k,h⟩:=h
    refine AM k (Port.ds_len _) (Z ?_)
    refine AF ?_
    refine AY [] .fin (by kernel_rfl) (Z ?_)
    refine AD h (fun h=>Z ?_) (fun h=>Z ?_)
    ·exact AW (ih2 a0 u y w true _ h) [] []
    ·replace h:=AB h; obtain⟨b,d,h⟩:=h
     refine AH (Ui _ _ _ d) (Z ?_)
     refine AD h (fun h=>Z ?_) (fun h=>Z ?_)
     ·exact AW (ih2 a0 u y w true _ h) [] []
     ·replace h:=AB h; obtain⟨c,e,h⟩:=h
      refine AM e (Agent.ds_len _) (Z ?_)
      replace h:=AB h; obtain⟨i,l,h⟩:=h
      refine AM l (Port.ds_len _) (Z ?_)
      exact AW (ih2 a0 u y w (!(decide (i.agent=u)&&decide (i.slot=y))) _ h) [] []
   ·refine AF ?_
    exact lpF (ih0 a0 (IntKind.i64.wrap (u+1)) _ h) [] []
  ·intro a0 u y w q r h
   rw [Er] at h
   refine AN rfl rfl (Z ?_)
   refine AD h (fun h=>Z ?_) (fun h=>Z ?_)
   ·cases h
    simp only [go_sem]
   ·refine AF ?_
    exact lpF (ih1 a0 u w (IntKind.i64.wrap (y+1)) _ h) [] []
theorem Sr (n:Nat):(∀a0 u r,ET n a0 u=some r→Al Tryz.prog Tryz.f84 [1,1,0,1,0] (.bool r) ⟨[(0,.rop [.ro (List.map Agent.ds a0.agents)] 0),(3,.int .i64 u)],[],[]⟩):=(SQ n).1
theorem SG (a0 r) (h:K3 a0=some r):AC Tryz.prog 84 [.rop (Net.avs a0) 0] (.bool r):=by
 unfold K3 at h
 refine acF Tryz.func84 mixed (h:=Z ?_)
 replace h:=AB h; obtain⟨u,w,h⟩:=h
 refine AH (SP _ _ w) (Z ?_)
 refine AF ?_
 refine AD h (fun h=>Z ?_) (fun h=>Z ?_)
 ·cases h
  simp only [go_sem]
 ·refine AF ?_
  exact loF (Sr fuel a0 0 _ h) [] []
theorem IZ (n:Nat):(∀ (a0:List Net) (u:Int) (f1:(Net→Option Bool)) (g1:FuncId) (c1:List AV) (s1:Still c1) (h1:∀ (y0:Net) (q:Bool),f1 y0=some q→AC Tryz.prog g1 (.agg (Net.avs y0)::c1) (.bool q)) (r:Int),BH n a0 u f1=some r→Al Tryz.prog Tryz.f196 [1,0,1,0] (.int .i64 r) ⟨[(0,.ro (List.map Net.ds a0)),(1,.fn g1 c1),(7,.int .i64 ((List.length a0:Nat):Int)),(8,.int .i64 u)],[],[]⟩):=by
 induction n with
 |zero=>exact((fun _ _ _ _ _ _ _ _ h=>by rw [BH] at h; cases h))
 | succ n ih=>
  have ih0:=ih
  ·intro a0 u f1 g1 c1 s1 h1 r h
   rw [BH] at h
   refine AN rfl rfl ?_
   try simp only [go_sem,s1.k,s1.r,s1.c,s1.p]
   refine AX ?_
   try simp only [go_sem,s1.k,s1.r,s1.c,s1.p]
   refine AD h (fun h=>?_) (fun h=>?_)
   ·try simp only [go_sem,s1.k,s1.r,s1.c,s1.p]
    refine F3 ?_
    try simp only [go_sem,s1.k,s1.r,s1.c,s1.p]
    replace h:=AB h; obtain⟨w,y,h⟩:=h
    refine AM y (Net.ds_len _) ?_
    try simp only [go_sem,s1.k,s1.r,s1.c,s1.p]
    replace h:=AB h; obtain⟨g,j,h⟩:=h
    refine AH (h1 _ _ j) ?_
    try simp only [go_sem,s1.k,s1.r,s1.c,s1.p]
    refine F3 ?_
    try simp only [go_sem,s1.k,s1.r,s1.c,s1.p]
    refine AD h (fun h=>?_) (fun h=>?_)
    ·try simp only [go_sem,s1.k,s1.r,s1.c,s1.p]
     cases h
     simp only [go_sem,s1.k,s1.r,s1.c,s1.p]
    ·try simp only [go_sem,s1.k,s1.r,s1.c,s1.p]
     refine F3 ?_
     try simp only [go_sem,s1.k,s1.r,s1.c,s1.p]
     refine TR (DK rfl rfl (ih0 a0 (IntKind.i64.wrap (u+1)) f1 g1 c1 s1 h1 _ h):) (.one ⟨_,.done _,[],[],?_⟩)
     try simp only [go_sem,s1.k,s1.r,s1.c,s1.p]
   ·try simp only [go_sem,s1.k,s1.r,s1.c,s1.p]
    refine F3 ?_
    try simp only [go_sem,s1.k,s1.r,s1.c,s1.p]
    cases h
    simp only [go_sem,s1.k,s1.r,s1.c,s1.p]
theorem J7 (a0:List Net) (f1:(Net→Option Bool)) (g1:FuncId) (c1:List AV) (s1:Still c1) (h1:∀ (y0:Net) (q:Bool),f1 y0=some q→AC Tryz.prog g1 (.agg (Net.avs y0)::c1) (.bool q)) (r:Int) (h:Du a0 f1=some r):AC Tryz.prog 196 [.ro (List.map Net.ds a0),.fn g1 c1] (.int .i64 r):=by
 unfold Du at h
 refine acF Tryz.func196 mixed (h:=?_)
 try simp only [go_sem,s1.k,s1.r,s1.c,s1.p]
 refine Ch (DK rfl rfl (IZ fuel a0 0 f1 g1 c1 s1 h1 _ h):) (.one ⟨_,.done _,[],[],?_⟩)
 try simp only [go_sem,s1.k,s1.r,s1.c,s1.p]
theorem Ia (a0:List Net) (f1:(Net→Option Bool)) (g1:FuncId) (c1:List AV) (s1:Still c1) (h1:∀ (y0:Net) (q:Bool),f1 y0=some q→AC Tryz.prog g1 (.agg (Net.avs y0)::c1) (.bool q)) (r:Bool) (h:B6 a0 f1=some r):AC Tryz.prog 136 [.ro (List.map Net.ds a0),.fn g1 c1] (.bool r):=by
 unfold B6 at h
 refine acF Tryz.func136 mixed (h:=?_)
 try simp only [go_sem,s1.k,s1.r,s1.c,s1.p]
 replace h:=AB h; obtain⟨u,w,h⟩:=h
 refine AH (J7 _ _ g1 c1 s1 h1 _ w) ?_
 try simp only [go_sem,s1.k,s1.r,s1.c,s1.p]
 refine F3 ?_
 try simp only [go_sem,s1.k,s1.r,s1.c,s1.p]
 cases h
 simp only [go_sem,s1.k,s1.r,s1.c,s1.p]
theorem Lc (a0 r) (h:E1 a0=some r):AC Tryz.prog 137 [.agg (Net.avs a0)] (.bool r):=by
 unfold E1 at h
 refine acF Tryz.func137 mixed (h:=Z ?_)
 replace h:=AB h; obtain⟨u,w,h⟩:=h
 refine AH (NN _ _ w) (Z ?_)
 refine AF ?_
 cases h
 simp only [go_sem]
theorem M8 (a0 r) (h:Ed a0=some r):AC Tryz.prog 78 [.ro (List.map Net.ds a0)] (.bool r):=by
 unfold Ed at h
 refine acF Tryz.func78 mixed (h:=Z ?_)
 refine AD h (fun h=>Z ?_) (fun h=>Z ?_)
 ·replace h:=AB h; obtain⟨u,w,h⟩:=h
  refine AH (Ia _ _ 137 [] (Still.of rfl) (fun y0 q hq=>Lc y0  q hq) _ w) (Z ?_)
  refine AF ?_
  cases h
  simp only [go_sem]
 ·refine AF ?_
  cases h
  simp only [go_sem]
theorem Qm (n:Nat):(∀a0 u r,E2 n a0 u=some r→Al Tryz.prog Tryz.f73 [1,1,0,1,0] (.bool r) ⟨[(0,.ro (List.map Net.ds a0)),(3,.int .i64 u)],[],[]⟩):=by
 induction n with
 |zero=>exact((fun _ _ _ h=>by rw [E2] at h; cases h))
 | succ n ih=>
  have ih0:=ih
  ·intro a0 u r h
   rw [E2] at h
   refine AN rfl rfl (Z ?_)
   refine AX (Z ?_)
   refine AD h (fun h=>Z ?_) (fun h=>Z ?_)
   ·refine AF ?_
    replace h:=AB h; obtain⟨w,y,h⟩:=h
    refine AM y (Net.ds_len _) (Z ?_)
    replace h:=AB h; obtain⟨q,g,h⟩:=h
    refine AH (SG _ _ g) (Z ?_)
    refine AF ?_
    refine AD h (fun h=>Z ?_) (fun h=>Z ?_)
    ·cases h
     simp only [go_sem]
    ·refine AF ?_
     exact lpF (ih0 a0 (IntKind.i64.wrap (u+1)) _ h) [] []
   ·refine AF ?_
    cases h
    simp only [go_sem]
theorem UW (a0 r) (h:KO a0=some r):AC Tryz.prog 73 [.ro (List.map Net.ds a0)] (.bool r):=by
 unfold KO at h
 refine acF Tryz.func73 mixed (h:=Z ?_)
 refine AD h (fun h=>Z ?_) (fun h=>Z ?_)
 ·cases h
  simp only [go_sem]
 ·refine AF ?_
  exact loF (Qm fuel a0 0 _ h) [] []
end Go.Proofs.YtckcfdggbbabfaaGreat.Ab
