/-
 The functions do what their models say. Printed by wip/ab/gen.py.
-/
import Derived.Test.YteckcjgpnegkjaaGreatModU
import Derived.Test.YteckcjgpnegkjaaGreatTi2
import Derived.Test.YteckcjgpnegkjaaGreatWlk
namespace Go.Proofs.YteckcjgpnegkjaaGreat.Ab
set_option linter.defProp false
set_option linter.unusedVariables false
set_option linter.unusedSimpArgs false
set_option maxRecDepth 20000
set_option maxHeartbeats 4000000
open Go.RowKit
theorem Pl (n:Nat):(∀u w y (z1:Option Nat) r,DJ n u w y=some r→DB Tryz.prog Tryz.f84 [1,0,1,0] (.int .i64 r.1) [(1,⟨List.map Port.ds r.2,z1,0,false⟩)] [] ⟨[(0,.own 1),(1,.int .i64 w),(5,.int .i64 y)],[(1,some ⟨List.map Port.ds u,z1,0,false⟩)],[]⟩):=by
 induction n with
 |zero=>exact((fun _ _ _ _ _ h=>by rw [DJ] at h; cases h))
 | succ n ih=>
  have ih0:=ih
  ·intro u w y z1 r h
   rw [DJ] at h
   refine Aq rfl rfl (Z ?_)
   refine AY (Z ?_)
   refine AB h (fun h=>Z ?_) (fun h=>Z ?_)
   ·refine AF ?_
    replace h:=AD h; obtain⟨q,g,h⟩:=h
    refine AL g (Port.ds_len _) (Z ?_)
    replace h:=AD h; obtain⟨j,k,h⟩:=h
    refine Aa (AS g) (Z ?_)
    refine Ag (j.map Port.ds) (by rw [← Ai k]; simp only [List.map_set,go_sem,Port.ds_eq]) (Z ?_)
    replace h:=AD h; obtain⟨b,d,h⟩:=h
    refine AL d (Port.ds_len _) (Z ?_)
    replace h:=AD h; obtain⟨c,e,h⟩:=h
    refine Aa (AS d) (Z ?_)
    refine Ag (c.map Port.ds) (by rw [← Ai e]; simp only [List.map_set,go_sem,Port.ds_eq]) (Z ?_)
    refine AF ?_
    exact lpG (ih0 c (IntKind.i64.wrap ((IntKind.i64.wrap (w+1))+1)) (IntKind.i64.wrap (y+1)) z1 _ h) [(1,1)] []
   ·refine AF ?_
    cases h
    refine BJ (.done _) [(1,1)] [] ?_
    simp only [go_sem]
theorem S0 (a0 a1) (z1:Option Nat) (r) (h:IN a0 a1=some r):AG Tryz.prog 84 [.own 1,.int .i64 a1] [(1,⟨List.map Port.ds a0,z1,0,false⟩)] [] (.int .i64 r.1) [(1,⟨List.map Port.ds r.2,z1,0,false⟩)] [] :=by
 unfold IN at h
 refine agF Tryz.func84 mixed (h:=Z ?_)
 exact loG (Pl fuel a0 a1 0 z1 _ h) [(1,1)] []
theorem Oe (n:Nat):(∀u w y (z1:Option Nat) r,Cm n u w y=some r→DB Tryz.prog Tryz.f35 [1,0,1,0] (.int .i64 r.1) [(1,⟨List.map Agent.ds r.2,z1,0,false⟩)] [] ⟨[(0,.own 1),(1,.int .i64 w),(5,.int .i64 y)],[(1,some ⟨List.map Agent.ds u,z1,0,false⟩)],[]⟩):=by
 induction n with
 |zero=>exact((fun _ _ _ _ _ h=>by rw [Cm] at h; cases h))
 | succ n ih=>
  have ih0:=ih
  ·intro u w y z1 r h
   rw [Cm] at h
   refine Aq rfl rfl (Z ?_)
   refine AY (Z ?_)
   refine AB h (fun h=>Z ?_) (fun h=>Z ?_)
   ·refine AF ?_
    replace h:=AD h; obtain⟨q,g,h⟩:=h
    refine AL g (Agent.ds_len _) (Z ?_)
    replace h:=AD h; obtain⟨j,k,h⟩:=h
    refine Aa (AS g) (Z ?_)
    refine Ag (j.map Agent.ds) (by rw [← Ai k]; simp only [List.map_set,go_sem,Agent.ds_eq]) (Z ?_)
    replace h:=AD h; obtain⟨b,d,h⟩:=h
    refine AL d (Agent.ds_len _) (Z ?_)
    replace h:=AD h; obtain⟨c,e,h⟩:=h
    refine Aa (AS d) (Z ?_)
    refine Ag (c.map Agent.ds) (by rw [← Ai e]; simp only [List.map_set,go_sem,Agent.ds_eq]) (Z ?_)
    replace h:=AD h; obtain⟨i,l,h⟩:=h
    refine AL l (Agent.ds_len _) (Z ?_)
    replace h:=AD h; obtain⟨t,s,h⟩:=h
    refine Aa (AS l) (Z ?_)
    refine Ag (t.map Agent.ds) (by rw [← Ai s]; simp only [List.map_set,go_sem,Agent.ds_eq]) (Z ?_)
    replace h:=AD h; obtain⟨o,z,h⟩:=h
    refine AL z (Agent.ds_len _) (Z ?_)
    refine Aa (AS z) (Z ?_)
    replace h:=AD h; obtain⟨u1,u2,h⟩:=h
    replace h:=AD h; obtain⟨u3,u4,h⟩:=h
    refine caG ⟨[(3000176096,.sub 1 0 [(5,Int.toNat y,3)],none)],[(1,3000176096)],[],[],[],true⟩ (Qw _ _ none _ u2) (Z ?_)
    refine Aa (Ec (r:=List.map Ar o.data) (AS z) (Agent.ds_len _) (by simp only [go_sem,Agent.ds_eq])) (Z ?_)
    refine Ag ((t.map Agent.ds).set (Int.toNat y) [.int .i64 o.kind,.int .i64 o.level,.int .i64 o.value,.gone,.sl (o.ports.map Port.ds)]) ((Hk (AS z) (d':=.sl (o.data.map Ar)) (by simp only [go_sem,Agent.ds_eq])).trans (by simp only [go_sem,Agent.ds_eq])) (Z ?_)
    refine Al (YO (ON (AS z)) rfl rfl) (Z ?_)
    refine Ag (u3.map Agent.ds) (((Hk (ON (AS z)) (d':=.gone) rfl).trans (List.set_set ..)).trans (by rw [← Ai u4]; simp only [List.map_set,go_sem,Agent.ds_eq])) (Z ?_)
    refine AF ?_
    replace h:=AD h; obtain⟨u5,u6,h⟩:=h
    refine AL u6 (Agent.ds_len _) (Z ?_)
    refine Aa (AS u6) (Z ?_)
    replace h:=AD h; obtain⟨u7,u8,h⟩:=h
    replace h:=AD h; obtain⟨u9,u10,h⟩:=h
    refine caG ⟨[(3000192096,.sub 1 0 [(5,Int.toNat y,4)],none)],[(1,3000192096)],[],[],[],true⟩ (S0 _ _ none _ u8) (Z ?_)
    refine Aa (Ec (r:=List.map Port.ds u5.ports) (AS u6) (Agent.ds_len _) (by simp only [go_sem,Agent.ds_eq])) (Z ?_)
    refine Ag ((u3.map Agent.ds).set (Int.toNat y) [.int .i64 u5.kind,.int .i64 u5.level,.int .i64 u5.value,.sl (u5.data.map Ar),.gone]) ((Hk (AS u6) (d':=.sl (u5.ports.map Port.ds)) (by simp only [go_sem,Agent.ds_eq])).trans (by simp only [go_sem,Agent.ds_eq])) (Z ?_)
    refine Al (YO (ON (AS u6)) rfl rfl) (Z ?_)
    refine Ag (u9.map Agent.ds) (((Hk (ON (AS u6)) (d':=.gone) rfl).trans (List.set_set ..)).trans (by rw [← Ai u10]; simp only [List.map_set,go_sem,Agent.ds_eq])) (Z ?_)
    refine AF ?_
    exact lpG (ih0 u9 u7.1 (IntKind.i64.wrap (y+1)) z1 _ h) [(1,1)] []
   ·refine AF ?_
    cases h
    refine BJ (.done _) [(1,1)] [] ?_
    simp only [go_sem]
theorem Lv (a0 a1) (z1:Option Nat) (r) (h:F8 a0 a1=some r):AG Tryz.prog 35 [.own 1,.int .i64 a1] [(1,⟨List.map Agent.ds a0,z1,0,false⟩)] [] (.int .i64 r.1) [(1,⟨List.map Agent.ds r.2,z1,0,false⟩)] [] :=by
 unfold F8 at h
 refine agF Tryz.func35 mixed (h:=Z ?_)
 exact loG (Oe fuel a0 a1 0 z1 _ h) [(1,1)] []
theorem VX (a0 a1) (z1:Option Nat) (r) (h:I7 a0 a1=some r):AG Tryz.prog 15 [.agg [.own 1],.int .i64 a1] [(1,⟨List.map Agent.ds a0.agents,z1,0,false⟩)] [] (.int .i64 r.1) [(1,⟨List.map Agent.ds r.2,z1,0,false⟩)] [] :=by
 unfold I7 at h
 refine agF Tryz.func15 mixed (h:=Z ?_)
 replace h:=AD h; obtain⟨u,w,h⟩:=h
 refine caG ⟨[],[(1,1)],[],[],[],true⟩ (Lv _ _ z1 _ w) (Z ?_)
 refine AF ?_
 cases h
 refine BJ (.done _) [(1,1)] [] ?_
 simp only [go_sem]
theorem QS (n:Nat):(∀u w y (z1:Option Nat) r,Di n u w y=some r→DB Tryz.prog Tryz.f14 [1,0,1,0] (.int .i64 r.1) [(1,⟨List.map Net.ds r.2,z1,0,false⟩)] [] ⟨[(0,.own 1),(1,.int .i64 w),(5,.int .i64 y)],[(1,some ⟨List.map Net.ds u,z1,0,false⟩)],[]⟩):=by
 induction n with
 |zero=>exact((fun _ _ _ _ _ h=>by rw [Di] at h; cases h))
 | succ n ih=>
  have ih0:=ih
  ·intro u w y z1 r h
   rw [Di] at h
   refine Aq rfl rfl (Z ?_)
   refine AY (Z ?_)
   refine AB h (fun h=>Z ?_) (fun h=>Z ?_)
   ·refine AF ?_
    replace h:=AD h; obtain⟨q,g,h⟩:=h
    refine AL g (Net.ds_len _) (Z ?_)
    refine Aa (AS g) (Z ?_)
    replace h:=AD h; obtain⟨j,k,h⟩:=h
    replace h:=AD h; obtain⟨b,d,h⟩:=h
    refine caG ⟨[(3000080096,.sub 1 0 [(1,Int.toNat y,0)],none)],[(1,3000080096)],[],[],[],true⟩ (Lv _ _ none _ k) (Z ?_)
    refine Aa (Ec (r:=List.map Agent.ds q.agents) (AS g) (Net.ds_len _) (by simp only [go_sem,Net.ds_eq])) (Z ?_)
    refine Ag ((u.map Net.ds).set (Int.toNat y) [.gone]) ((Hk (AS g) (d':=.sl (q.agents.map Agent.ds)) (by simp only [go_sem,Net.ds_eq])).trans (by simp only [go_sem,Net.ds_eq])) (Z ?_)
    refine Al (YO (ON (AS g)) rfl rfl) (Z ?_)
    refine Ag (b.map Net.ds) (((Hk (ON (AS g)) (d':=.gone) rfl).trans (List.set_set ..)).trans (by rw [← Ai d]; simp only [List.map_set,go_sem,Net.ds_eq])) (Z ?_)
    refine AF ?_
    exact lpG (ih0 b j.1 (IntKind.i64.wrap (y+1)) z1 _ h) [(1,1)] []
   ·refine AF ?_
    cases h
    refine BJ (.done _) [(1,1)] [] ?_
    simp only [go_sem]
theorem TY (a0 a1) (z1:Option Nat) (r) (h:Hs a0 a1=some r):AG Tryz.prog 14 [.own 1,.int .i64 a1] [(1,⟨List.map Net.ds a0,z1,0,false⟩)] [] (.int .i64 r.1) [(1,⟨List.map Net.ds r.2,z1,0,false⟩)] [] :=by
 unfold Hs at h
 refine agF Tryz.func14 mixed (h:=Z ?_)
 exact loG (QS fuel a0 a1 0 z1 _ h) [(1,1)] []
theorem VY (a0 a1 r) (h:Ko a0 a1=some r):AC Tryz.prog 86 [.ro (a0.map Port.ds),.int .i64 a1] (.int .i64 r):=by
 unfold Ko at h
 refine acF Tryz.func86 mixed (h:=Z ?_)
 refine AB h (fun h=>Z ?_) (fun h=>Z ?_)
 ·cases h
  simp only [go_sem]
 ·refine AF ?_
  cases h
  simp only [go_sem]
theorem VZ (a0 a1 r) (h:I8 a0 a1=some r):AC Tryz.prog 36 [.agg (Agent.avs a0),.int .i64 a1] (.int .i64 r):=by
 unfold I8 at h
 refine acF Tryz.func36 mixed (h:=Z ?_)
 replace h:=AD h; obtain⟨u,w,h⟩:=h
 refine AH (TO _ _ _ w) (Z ?_)
 refine AF ?_
 refine AB h (fun h=>Z ?_) (fun h=>Z ?_)
 ·cases h
  simp only [go_sem]
 ·refine AF ?_
  replace h:=AD h; obtain⟨y,q,h⟩:=h
  refine AH (VY _ _ _ q) (Z ?_)
  refine AF ?_
  refine AB h (fun h=>Z ?_) (fun h=>Z ?_)
  ·cases h
   simp only [go_sem]
  ·refine AF ?_
   cases h
   simp only [go_sem]
theorem QT (n:Nat):(∀a0 u w r,EQ n a0 u w=some r→Af Tryz.prog Tryz.f18 [1,1,1,0,1,0] (.int .i64 r) ⟨[(0,.ro (a0.map Agent.ds)),(1,.int .i64 u),(5,.int .i64 w)],[],[]⟩):=by
 induction n with
 |zero=>exact((fun _ _ _ _ h=>by rw [EQ] at h; cases h))
 | succ n ih=>
  have ih0:=ih
  ·intro a0 u w r h
   rw [EQ] at h
   refine AN rfl rfl (Z ?_)
   refine AY (Z ?_)
   refine AB h (fun h=>Z ?_) (fun h=>Z ?_)
   ·refine AF ?_
    replace h:=AD h; obtain⟨y,q,h⟩:=h
    refine AL q (Agent.ds_len _) (Z ?_)
    replace h:=AD h; obtain⟨g,j,h⟩:=h
    refine AH (VZ _ _ _ j) (Z ?_)
    refine AF ?_
    refine AB h (fun h=>Z ?_) (fun h=>Z ?_)
    ·cases h
     simp only [go_sem]
    ·refine AF ?_
     exact lpF (ih0 a0 g (IntKind.i64.wrap (w+1)) _ h) [] []
   ·refine AF ?_
    cases h
    simp only [go_sem]
theorem TZ (a0 a1 r) (h:JY a0 a1=some r):AC Tryz.prog 18 [.ro (a0.map Agent.ds),.int .i64 a1] (.int .i64 r):=by
 unfold JY at h
 refine acF Tryz.func18 mixed (h:=Z ?_)
 refine AB h (fun h=>Z ?_) (fun h=>Z ?_)
 ·cases h
  simp only [go_sem]
 ·refine AF ?_
  exact loF (QT fuel a0 (IntKind.i64.wrap (a1 - (a0.length:Int))) 0 _ h) [] []
theorem Sz (a0 a1 r) (h:LT a0 a1=some r):AC Tryz.prog 5 [.agg (Net.avs a0),.int .i64 a1] (.int .i64 r):=by
 unfold LT at h
 refine acF Tryz.func5 mixed (h:=Z ?_)
 replace h:=AD h; obtain⟨u,w,h⟩:=h
 refine AH (TZ _ _ _ w) (Z ?_)
 refine AF ?_
 refine AB h (fun h=>Z ?_) (fun h=>Z ?_)
 ·cases h
  simp only [go_sem]
 ·refine AF ?_
  cases h
  simp only [go_sem]
theorem S3 (n:Nat):(∀a0 u w r,Fq n a0 u w=some r→Af Tryz.prog Tryz.f4 [1,1,1,0,1,0] (.int .i64 r) ⟨[(0,.ro (a0.map Net.ds)),(1,.int .i64 u),(5,.int .i64 w)],[],[]⟩):=by
 induction n with
 |zero=>exact((fun _ _ _ _ h=>by rw [Fq] at h; cases h))
 | succ n ih=>
  have ih0:=ih
  ·intro a0 u w r h
   rw [Fq] at h
   refine AN rfl rfl (Z ?_)
   refine AY (Z ?_)
   refine AB h (fun h=>Z ?_) (fun h=>Z ?_)
   ·refine AF ?_
    replace h:=AD h; obtain⟨y,q,h⟩:=h
    refine AL q (Net.ds_len _) (Z ?_)
    replace h:=AD h; obtain⟨g,j,h⟩:=h
    refine AH (Sz _ _ _ j) (Z ?_)
    refine AF ?_
    refine AB h (fun h=>Z ?_) (fun h=>Z ?_)
    ·cases h
     simp only [go_sem]
    ·refine AF ?_
     exact lpF (ih0 a0 g (IntKind.i64.wrap (w+1)) _ h) [] []
   ·refine AF ?_
    cases h
    simp only [go_sem]
theorem Xe (a0 a1 r) (h:Md a0 a1=some r):AC Tryz.prog 4 [.ro (a0.map Net.ds),.int .i64 a1] (.int .i64 r):=by
 unfold Md at h
 refine acF Tryz.func4 mixed (h:=Z ?_)
 refine AB h (fun h=>Z ?_) (fun h=>Z ?_)
 ·cases h
  simp only [go_sem]
 ·refine AF ?_
  exact loF (S3 fuel a0 (IntKind.i64.wrap (a1 - (a0.length:Int))) 0 _ h) [] []
theorem Xf (a0 r) (h:Me a0=some r):AC Tryz.prog 135 [.agg (Port.avs a0)] (.agg (Port.rv r)):=by
 unfold Me at h
 refine acF Tryz.func135 mixed (h:=Z ?_)
 refine AF ?_
 refine AF ?_
 cases h
 simp only [go_sem]
theorem RB (n:Nat):(∀a0 u w r,E6 n a0 u w=some r→Af Tryz.prog Tryz.f102 [1,1,0,1,0] (.ow (some 2) (r.map Port.ds)) ⟨[(0,.ro (a0.map Port.ds)),(3,.own 1000001000),(4,.int .i64 w)],[(1000001000,some ⟨List.map Port.ds u,some 2,0,false⟩)],[]⟩):=by
 induction n with
 |zero=>exact((fun _ _ _ _ h=>by rw [E6] at h; cases h))
 | succ n ih=>
  have ih0:=ih
  ·intro a0 u w r h
   rw [E6] at h
   refine AN rfl rfl (Z ?_)
   refine AY (Z ?_)
   refine AB h (fun h=>Z ?_) (fun h=>Z ?_)
   ·refine AF ?_
    replace h:=AD h; obtain⟨y,q,h⟩:=h
    refine AL q (Port.ds_len _) (Z ?_)
    replace h:=AD h; obtain⟨g,j,h⟩:=h
    refine AH (Xf _ _ j) (Z ?_)
    replace h:=AD h; obtain⟨k,b,h⟩:=h
    refine AL b (Port.ds_len _) (Z ?_)
    replace h:=AD h; obtain⟨d,c,h⟩:=h
    refine Aa (AS b) (Z ?_)
    refine Ag (d.map Port.ds) (by rw [← Ai c]; simp only [List.map_set,go_sem,Port.ds_eq]) (Z ?_)
    refine AF ?_
    exact lpF (ih0 a0 d (IntKind.i64.wrap (w+1)) _ h) [(1000001000,1000001000)] []
   ·refine AF ?_
    cases h
    simp only [go_sem]
theorem Va (a0 r) (h:Kp a0=some r):AC Tryz.prog 102 [.ro (a0.map Port.ds)] (.ow (some 2) (r.map Port.ds)):=by
 unfold Kp at h
 refine acF Tryz.func102 mixed (h:=Z ?_)
 replace h:=AD h; obtain⟨u,w,h⟩:=h
 have hq_:=G8 w
 obtain⟨hv2002a,hv2002b,hv2002c⟩:=hq_
 refine Al (by refine⟨?_,?_,?_⟩ <;> omega) (Z ?_)
 refine Ag (u.map Port.ds) (by rw [← hv2002c]; simp only [List.map_replicate,go_sem,Port.ds_eq]) (Z ?_)
 refine AF ?_
 exact loF (RB fuel a0 u 0 _ h) [(1000001000,32032)] []
theorem Vb (a0 r) (h:I9 a0=some r):AC Tryz.prog 61 [.agg (Agent.avs a0)] (.agg (Agent.rv r)):=by
 unfold I9 at h
 refine acF Tryz.func61 mixed (h:=Z ?_)
 refine AF ?_
 refine AF ?_
 replace h:=AD h; obtain⟨u,w,h⟩:=h
 refine AH (TP _ _ w) (Z ?_)
 refine AF ?_
 replace h:=AD h; obtain⟨y,q,h⟩:=h
 refine AH (Va _ _ q) (Z ?_)
 refine AF ?_
 cases h
 simp only [go_sem]
theorem QU (n:Nat):(∀a0 u w r,ER n a0 u w=some r→Af Tryz.prog Tryz.f26 [1,1,0,1,0] (.ow (some 5) (r.map Agent.ds)) ⟨[(0,.ro (a0.map Agent.ds)),(3,.own 1000001000),(4,.int .i64 w)],[(1000001000,some ⟨List.map Agent.ds u,some 5,0,false⟩)],[]⟩):=by
 induction n with
 |zero=>exact((fun _ _ _ _ h=>by rw [ER] at h; cases h))
 | succ n ih=>
  have ih0:=ih
  ·intro a0 u w r h
   rw [ER] at h
   refine AN rfl rfl (Z ?_)
   refine AY (Z ?_)
   refine AB h (fun h=>Z ?_) (fun h=>Z ?_)
   ·refine AF ?_
    replace h:=AD h; obtain⟨y,q,h⟩:=h
    refine AL q (Agent.ds_len _) (Z ?_)
    replace h:=AD h; obtain⟨g,j,h⟩:=h
    refine AH (Vb _ _ j) (Z ?_)
    replace h:=AD h; obtain⟨k,b,h⟩:=h
    refine AL b (Agent.ds_len _) (Z ?_)
    replace h:=AD h; obtain⟨d,c,h⟩:=h
    refine Aa (AS b) (Z ?_)
    refine Ag (d.map Agent.ds) (by rw [← Ai c]; simp only [List.map_set,go_sem,Agent.ds_eq]) (Z ?_)
    refine AF ?_
    exact lpF (ih0 a0 d (IntKind.i64.wrap (w+1)) _ h) [(1000001000,1000001000)] []
   ·refine AF ?_
    cases h
    simp only [go_sem]
theorem Ta (a0 r) (h:JZ a0=some r):AC Tryz.prog 26 [.ro (a0.map Agent.ds)] (.ow (some 5) (r.map Agent.ds)):=by
 unfold JZ at h
 refine acF Tryz.func26 mixed (h:=Z ?_)
 replace h:=AD h; obtain⟨u,w,h⟩:=h
 have hq_:=G8 w
 obtain⟨hv2002a,hv2002b,hv2002c⟩:=hq_
 refine Al (by refine⟨?_,?_,?_⟩ <;> omega) (Z ?_)
 refine Ag (u.map Agent.ds) (by rw [← hv2002c]; simp only [List.map_replicate,go_sem,Agent.ds_eq]) (Z ?_)
 refine AF ?_
 exact loF (QU fuel a0 u 0 _ h) [(1000001000,32032)] []
theorem Jq (a0 r) (h:HN a0=some r):AC Tryz.prog 8 [.agg (Net.avs a0)] (.agg (Net.rv r)):=by
 unfold HN at h
 refine acF Tryz.func8 mixed (h:=Z ?_)
 refine AF ?_
 refine AF ?_
 replace h:=AD h; obtain⟨u,w,h⟩:=h
 refine AH (Ta _ _ w) (Z ?_)
 refine AF ?_
 cases h
 simp only [go_sem]
theorem S4 (n:Nat):(∀a0 u w r,Fs n a0 u w=some r→Af Tryz.prog Tryz.f7 [1,1,0,1,0] (.ow (some 1) (r.map Net.ds)) ⟨[(0,.ro (a0.map Net.ds)),(3,.own 1000001000),(4,.int .i64 w)],[(1000001000,some ⟨List.map Net.ds u,some 1,0,false⟩)],[]⟩):=by
 induction n with
 |zero=>exact((fun _ _ _ _ h=>by rw [Fs] at h; cases h))
 | succ n ih=>
  have ih0:=ih
  ·intro a0 u w r h
   rw [Fs] at h
   refine AN rfl rfl (Z ?_)
   refine AY (Z ?_)
   refine AB h (fun h=>Z ?_) (fun h=>Z ?_)
   ·refine AF ?_
    replace h:=AD h; obtain⟨y,q,h⟩:=h
    refine AL q (Net.ds_len _) (Z ?_)
    replace h:=AD h; obtain⟨g,j,h⟩:=h
    refine AH (Jq _ _ j) (Z ?_)
    replace h:=AD h; obtain⟨k,b,h⟩:=h
    refine AL b (Net.ds_len _) (Z ?_)
    replace h:=AD h; obtain⟨d,c,h⟩:=h
    refine Aa (AS b) (Z ?_)
    refine Ag (d.map Net.ds) (by rw [← Ai c]; simp only [List.map_set,go_sem,Net.ds_eq]) (Z ?_)
    refine AF ?_
    exact lpF (ih0 a0 d (IntKind.i64.wrap (w+1)) _ h) [(1000001000,1000001000)] []
   ·refine AF ?_
    cases h
    simp only [go_sem]
theorem KC (a0 r) (h:HM a0=some r):AC Tryz.prog 7 [.ro (a0.map Net.ds)] (.ow (some 1) (r.map Net.ds)):=by
 unfold HM at h
 refine acF Tryz.func7 mixed (h:=Z ?_)
 replace h:=AD h; obtain⟨u,w,h⟩:=h
 have hq_:=G8 w
 obtain⟨hv2002a,hv2002b,hv2002c⟩:=hq_
 refine Al (by refine⟨?_,?_,?_⟩ <;> omega) (Z ?_)
 refine Ag (u.map Net.ds) (by rw [← hv2002c]; simp only [List.map_replicate,go_sem,Net.ds_eq]) (Z ?_)
 refine AF ?_
 exact loF (S4 fuel a0 u 0 _ h) [(1000001000,32032)] []
theorem Xg (a0 a1 r) (h:Kq a0 a1=some r):AC Tryz.prog 146 [.agg (Port.avs a0),.agg (Port.avs a1)] (.bool r):=by
 unfold Kq at h
 refine acF Tryz.func146 mixed (h:=Z ?_)
 refine AB h (fun h=>Z ?_) (fun h=>Z ?_)
 ·cases h
  simp only [go_sem]
 ·refine AF ?_
  refine AB h (fun h=>Z ?_) (fun h=>Z ?_)
  ·cases h
   simp only [go_sem]
  ·refine AF ?_
   cases h
   simp only [go_sem]
theorem RC (n:Nat):(∀a0 a1 u r,E7 n a0 a1 u=some r→Af Tryz.prog Tryz.f125 [1,1,0,1,0] (.bool r) ⟨[(0,.ro (a0.map Port.ds)),(1,.ro (a1.map Port.ds)),(5,.int .i64 u)],[],[]⟩):=by
 induction n with
 |zero=>exact((fun _ _ _ _ h=>by rw [E7] at h; cases h))
 | succ n ih=>
  have ih0:=ih
  ·intro a0 a1 u r h
   rw [E7] at h
   refine AN rfl rfl (Z ?_)
   refine AY (Z ?_)
   refine AB h (fun h=>Z ?_) (fun h=>Z ?_)
   ·refine AF ?_
    refine AX [] .fin (by kernel_rfl) (Z ?_)
    replace h:=AD h; obtain⟨w,y,h⟩:=h
    refine AL y (Port.ds_len _) (Z ?_)
    replace h:=AD h; obtain⟨q,g,h⟩:=h
    refine AL g (Port.ds_len _) (Z ?_)
    replace h:=AD h; obtain⟨j,k,h⟩:=h
    refine AH (Xg _ _ _ k) (Z ?_)
    refine AF ?_
    refine AB h (fun h=>Z ?_) (fun h=>Z ?_)
    ·cases h
     simp only [go_sem]
    ·refine AF ?_
     exact lpF (ih0 a0 a1 (IntKind.i64.wrap (u+1)) _ h) [] []
   ·refine AF ?_
    cases h
    simp only [go_sem]
theorem Vc (a0 a1 r) (h:Kr a0 a1=some r):AC Tryz.prog 125 [.ro (a0.map Port.ds),.ro (a1.map Port.ds)] (.bool r):=by
 unfold Kr at h
 refine acF Tryz.func125 mixed (h:=Z ?_)
 refine AB h (fun h=>Z ?_) (fun h=>Z ?_)
 ·cases h
  simp only [go_sem]
 ·refine AF ?_
  exact loF (RC fuel a0 a1 0 _ h) [] []
theorem Vd (a0 a1 r) (h:JA a0 a1=some r):AC Tryz.prog 82 [.agg (Agent.avs a0),.agg (Agent.avs a1)] (.bool r):=by
 unfold JA at h
 refine acF Tryz.func82 mixed (h:=Z ?_)
 refine AB h (fun h=>Z ?_) (fun h=>Z ?_)
 ·cases h
  simp only [go_sem]
 ·refine AF ?_
  refine AB h (fun h=>Z ?_) (fun h=>Z ?_)
  ·cases h
   simp only [go_sem]
  ·refine AF ?_
   refine AB h (fun h=>Z ?_) (fun h=>Z ?_)
   ·cases h
    simp only [go_sem]
   ·refine AF ?_
    replace h:=AD h; obtain⟨u,w,h⟩:=h
    refine AH (TQ _ _ _ w) (Z ?_)
    refine AF ?_
    refine AB h (fun h=>Z ?_) (fun h=>Z ?_)
    ·cases h
     simp only [go_sem]
    ·refine AF ?_
     replace h:=AD h; obtain⟨y,q,h⟩:=h
     refine AH (Vc _ _ _ q) (Z ?_)
     refine AF ?_
     refine AB h (fun h=>Z ?_) (fun h=>Z ?_)
     ·cases h
      simp only [go_sem]
     ·refine AF ?_
      cases h
      simp only [go_sem]
theorem QV (n:Nat):(∀a0 a1 u r,ES n a0 a1 u=some r→Af Tryz.prog Tryz.f34 [1,1,0,1,0] (.bool r) ⟨[(0,.ro (a0.map Agent.ds)),(1,.ro (a1.map Agent.ds)),(5,.int .i64 u)],[],[]⟩):=by
 induction n with
 |zero=>exact((fun _ _ _ _ h=>by rw [ES] at h; cases h))
 | succ n ih=>
  have ih0:=ih
  ·intro a0 a1 u r h
   rw [ES] at h
   refine AN rfl rfl (Z ?_)
   refine AY (Z ?_)
   refine AB h (fun h=>Z ?_) (fun h=>Z ?_)
   ·refine AF ?_
    refine AX [] .fin (by kernel_rfl) (Z ?_)
    replace h:=AD h; obtain⟨w,y,h⟩:=h
    refine AL y (Agent.ds_len _) (Z ?_)
    replace h:=AD h; obtain⟨q,g,h⟩:=h
    refine AL g (Agent.ds_len _) (Z ?_)
    replace h:=AD h; obtain⟨j,k,h⟩:=h
    refine AH (Vd _ _ _ k) (Z ?_)
    refine AF ?_
    refine AB h (fun h=>Z ?_) (fun h=>Z ?_)
    ·cases h
     simp only [go_sem]
    ·refine AF ?_
     exact lpF (ih0 a0 a1 (IntKind.i64.wrap (u+1)) _ h) [] []
   ·refine AF ?_
    cases h
    simp only [go_sem]
theorem Tb (a0 a1 r) (h:Ja a0 a1=some r):AC Tryz.prog 34 [.ro (a0.map Agent.ds),.ro (a1.map Agent.ds)] (.bool r):=by
 unfold Ja at h
 refine acF Tryz.func34 mixed (h:=Z ?_)
 refine AB h (fun h=>Z ?_) (fun h=>Z ?_)
 ·cases h
  simp only [go_sem]
 ·refine AF ?_
  exact loF (QV fuel a0 a1 0 _ h) [] []
theorem Sy (a0 a1 r) (h:J4 a0 a1=some r):AC Tryz.prog 13 [.agg (Net.avs a0),.agg (Net.avs a1)] (.bool r):=by
 unfold J4 at h
 refine acF Tryz.func13 mixed (h:=Z ?_)
 replace h:=AD h; obtain⟨u,w,h⟩:=h
 refine AH (Tb _ _ _ w) (Z ?_)
 refine AF ?_
 refine AB h (fun h=>Z ?_) (fun h=>Z ?_)
 ·cases h
  simp only [go_sem]
 ·refine AF ?_
  cases h
  simp only [go_sem]
theorem S5 (n:Nat):(∀a0 a1 u r,Ft n a0 a1 u=some r→Af Tryz.prog Tryz.f12 [1,1,0,1,0] (.bool r) ⟨[(0,.ro (a0.map Net.ds)),(1,.ro (a1.map Net.ds)),(5,.int .i64 u)],[],[]⟩):=by
 induction n with
 |zero=>exact((fun _ _ _ _ h=>by rw [Ft] at h; cases h))
 | succ n ih=>
  have ih0:=ih
  ·intro a0 a1 u r h
   rw [Ft] at h
   refine AN rfl rfl (Z ?_)
   refine AY (Z ?_)
   refine AB h (fun h=>Z ?_) (fun h=>Z ?_)
   ·refine AF ?_
    refine AX [] .fin (by kernel_rfl) (Z ?_)
    replace h:=AD h; obtain⟨w,y,h⟩:=h
    refine AL y (Net.ds_len _) (Z ?_)
    replace h:=AD h; obtain⟨q,g,h⟩:=h
    refine AL g (Net.ds_len _) (Z ?_)
    replace h:=AD h; obtain⟨j,k,h⟩:=h
    refine AH (Sy _ _ _ k) (Z ?_)
    refine AF ?_
    refine AB h (fun h=>Z ?_) (fun h=>Z ?_)
    ·cases h
     simp only [go_sem]
    ·refine AF ?_
     exact lpF (ih0 a0 a1 (IntKind.i64.wrap (u+1)) _ h) [] []
   ·refine AF ?_
    cases h
    simp only [go_sem]
theorem Xd (a0 a1 r) (h:Kn a0 a1=some r):AC Tryz.prog 12 [.ro (a0.map Net.ds),.ro (a1.map Net.ds)] (.bool r):=by
 unfold Kn at h
 refine acF Tryz.func12 mixed (h:=Z ?_)
 refine AB h (fun h=>Z ?_) (fun h=>Z ?_)
 ·cases h
  simp only [go_sem]
 ·refine AF ?_
  exact loF (S5 fuel a0 a1 0 _ h) [] []
theorem Qr (a0 r) (h:Kg a0=some r):AC Tryz.prog 90 [.ro (a0.map Ar)] (.ow (some 1) (r.map Ar)):=by
 unfold Kg at h
 refine acF Tryz.func90 mixed (h:=Z ?_)
 replace h:=AD h; obtain⟨u,w,h⟩:=h
 have hq_:=An w
 obtain⟨hv2002a,hv2002b⟩:=hq_
 refine C3 false (Z ?_)
 refine Al (G9 (by intro x; exact⟨rfl,by simp [go_sem,D.flat]⟩) _) (Z ?_)
 refine Al (by refine⟨?_,?_⟩ <;> (try simp only [List.length_map,List.length_append,List.length_cons,List.length_nil] at*) <;> (try unfold maxLen) <;> omega) (Z ?_)
 refine Ag (u.map Ar) (by rw [← hv2002b]; simp only [List.map_append,List.map_cons,List.map_nil,List.nil_append,List.append_nil,go_sem,slD]) (Z ?_)
 refine AF ?_
 cases h
 simp only [go_sem]
theorem Eh (a0 r) (h:CY a0=some r):AC Tryz.prog 44 [.rop (Agent.avs a0) 0] (.agg (Agent.rv r)):=by
 unfold CY at h
 refine acF Tryz.func44 mixed (h:=Z ?_)
 refine AF ?_
 refine AX [false,false,false,false,false,false,false,false,false,false,false,false,false,false,false,false,false,false,false,false,false,false,false,false,true] (Tr.sq [24] .fin) (by kernel_rfl) (Z ?_)
 replace h:=AD h; obtain⟨u,w,h⟩:=h
 refine AH (Qr _ _ w) (Z ?_)
 replace h:=AD h; obtain⟨y,q,h⟩:=h
 have hq_:=An q
 obtain⟨hv2022a,hv2022b⟩:=hq_
 refine Al (by rfl) (Z ?_)
 refine C3 false (Z ?_)
 refine Al (G9 (by intro x; exact⟨(Port.ds_len _),by simp [Port.ds_eq,D.flat]⟩) _) (Z ?_)
 refine Al (by refine⟨?_,?_⟩ <;> (try simp only [List.length_map,List.length_append,List.length_cons,List.length_nil] at*) <;> (try unfold maxLen) <;> omega) (Z ?_)
 refine Ag (y.map Port.ds) (by rw [← hv2022b]; simp only [List.nil_append]) (Z ?_)
 refine AF ?_
 cases h
 simp only [go_sem]
theorem M4 (a0 r) (h:Jb a0=some r):AC Tryz.prog 142 [.int .i64 a0] (.bool r):=by
 unfold Jb at h
 refine acF Tryz.func142 mixed (h:=Z ?_)
 refine AB h (fun h=>Z ?_) (fun h=>Z ?_)
 ·refine AF ?_
  cases h
  simp only [go_sem]
 ·refine AF ?_
  cases h
  simp only [go_sem]
theorem KI (a0 r) (h:Ex a0=some r):AC Tryz.prog 114 [.int .i64 a0] (.bool r):=by
 unfold Ex at h
 refine acF Tryz.func114 mixed (h:=Z ?_)
 replace h:=AD h; obtain⟨u,w,h⟩:=h
 refine AH (M4 _ _ w) (Z ?_)
 refine AB h (fun h=>Z ?_) (fun h=>Z ?_)
 ·refine AB h (fun h=>Z ?_) (fun h=>Z ?_)
  ·refine AB h (fun h=>Z ?_) (fun h=>Z ?_)
   ·refine AF ?_
    cases h
    simp only [go_sem]
   ·refine AF ?_
    cases h
    simp only [go_sem]
  ·refine AF ?_
   cases h
   simp only [go_sem]
 ·refine AF ?_
  cases h
  simp only [go_sem]
theorem PS (a0 r) (h:Hl a0=some r):AC Tryz.prog 157 [.int .i64 a0] (.bool r):=by
 unfold Hl at h
 refine acF Tryz.func157 mixed (h:=Z ?_)
 refine AB h (fun h=>Z ?_) (fun h=>Z ?_)
 ·refine AF ?_
  cases h
  simp only [go_sem]
 ·refine AF ?_
  cases h
  simp only [go_sem]
theorem HW (a0 a1 r) (h:D9 a0 a1=some r):AC Tryz.prog 140 [.int .i64 a0,.int .i64 a1] (.bool r):=by
 unfold D9 at h
 refine acF Tryz.func140 mixed (h:=Z ?_)
 replace h:=AD h; obtain⟨u,w,h⟩:=h
 refine AH (M4 _ _ w) (Z ?_)
 refine AB h (fun h=>Z ?_) (fun h=>Z ?_)
 ·refine AB h (fun h=>Z ?_) (fun h=>Z ?_)
  ·refine AF ?_
   cases h
   simp only [go_sem]
  ·replace h:=AD h; obtain⟨y,q,h⟩:=h
   refine AH (KI _ _ q) (Z ?_)
   refine AB h (fun h=>Z ?_) (fun h=>Z ?_)
   ·replace h:=AD h; obtain⟨g,j,h⟩:=h
    refine AH (PS _ _ j) (Z ?_)
    refine AF ?_
    cases h
    simp only [go_sem]
   ·refine AF ?_
    cases h
    simp only [go_sem]
 ·refine AF ?_
  cases h
  simp only [go_sem]
theorem IY (a0:Int) (u:Bool) (r:Int) (h:E8 a0 u=some r):Af Tryz.prog Tryz.f144 [1,0,0,1,1,1] (.int .i64 r) ⟨[(0,.int .i64 a0),(18,.bool u)],[],[]⟩:=by
 unfold E8 at h
 refine AN rfl rfl (Z ?_)
 refine AB h (fun h=>Z ?_) (fun h=>Z ?_)
 ·cases h
  simp only [go_sem]
 ·refine AF ?_
  replace h:=AD h; obtain⟨w,y,h⟩:=h
  refine Aa y (Z ?_)
  cases h
  simp only [go_sem]
theorem IZ (a0:Int) (a1:Int) (u:Bool) (r:Int) (h:E9 a0 a1 u=some r):Af Tryz.prog Tryz.f144 [1,0,0,1] (.int .i64 r) ⟨[(0,.int .i64 a0),(1,.int .i64 a1),(5,.bool u)],[],[]⟩:=by
 unfold E9 at h
 refine AN rfl rfl (Z ?_)
 refine AB h (fun h=>Z ?_) (fun h=>Z ?_)
 ·cases h
  simp only [go_sem]
 ·replace h:=AD h; obtain⟨w,y,h⟩:=h
  refine AH (M4 _ _ y) (Z ?_)
  refine AB h (fun h=>Z ?_) (fun h=>Z ?_)
  ·exact AR (IY a0 true _ h) [] []
  ·refine AB h (fun h=>Z ?_) (fun h=>Z ?_)
   ·exact AR (IY a0 true _ h) [] []
   ·exact AR (IY a0 (!decide (a1=0)) _ h) [] []
theorem Pi (a0 a1 r) (h:Hq a0 a1=some r):AC Tryz.prog 144 [.int .i64 a0,.int .i64 a1] (.int .i64 r):=by
 unfold Hq at h
 refine acF Tryz.func144 mixed (h:=Z ?_)
 refine AB h (fun h=>Z ?_) (fun h=>Z ?_)
 ·refine AB h (fun h=>Z ?_) (fun h=>Z ?_)
  ·exact AR (IZ a0 a1 (decide (a1≤3)) _ h) [] []
  ·exact AR (IZ a0 a1 false _ h) [] []
 ·exact AR (IZ a0 a1 false _ h) [] []
theorem Tc (a0 a1 r) (h:Jc a0 a1=some r):AC Tryz.prog 151 [.int .i64 a0,.int .i64 a1] (.int .i64 r):=by
 unfold Jc at h
 refine acF Tryz.func151 mixed (h:=Z ?_)
 refine AB h (fun h=>Z ?_) (fun h=>Z ?_)
 ·cases h
  simp only [go_sem]
 ·refine AF ?_
  cases h
  simp only [go_sem]
theorem KP (n:Nat):(∀ (a0:List Int) (u:Int) (f1:(Int→Option Bool)) (g1:FuncId) (c1:List AV) (s1:Still c1) (h1:∀ (y0:Int) (q:Bool),f1 y0=some q→AC Tryz.prog g1 (fnA c1 [.int .i64 y0]) (.bool q)) (r:Int),Bl n a0 u f1=some r→Af Tryz.prog Tryz.f160 [1,0,1,0] (.int .i64 r) ⟨[(0,.ro (a0.map Ar)),(1,.fn g1 c1),(7,.int .i64 (a0.length:Int)),(8,.int .i64 u)],[],[]⟩):=by
 induction n with
 |zero=>exact((fun _ _ _ _ _ _ _ _ h=>by rw [Bl] at h; cases h))
 | succ n ih=>
  have ih0:=ih
  ·intro a0 u f1 g1 c1 s1 h1 r h
   rw [Bl] at h
   refine AN rfl rfl ?_
   try simp only [go_sem,s1.k,s1.r,s1.c,s1.p,s1.o,s1.f]
   refine AY ?_
   try simp only [go_sem,s1.k,s1.r,s1.c,s1.p,s1.o,s1.f]
   refine AB h (fun h=>?_) (fun h=>?_)
   ·try simp only [go_sem,s1.k,s1.r,s1.c,s1.p,s1.o,s1.f]
    refine GM ?_
    try simp only [go_sem,s1.k,s1.r,s1.c,s1.p,s1.o,s1.f]
    replace h:=AD h; obtain⟨w,y,h⟩:=h
    refine AL y rfl ?_
    try simp only [go_sem,s1.k,s1.r,s1.c,s1.p,s1.o,s1.f]
    replace h:=AD h; obtain⟨g,j,h⟩:=h
    refine AH (h1 _ _ j) ?_
    try simp only [go_sem,s1.k,s1.r,s1.c,s1.p,s1.o,s1.f]
    refine GM ?_
    try simp only [go_sem,s1.k,s1.r,s1.c,s1.p,s1.o,s1.f]
    refine AB h (fun h=>?_) (fun h=>?_)
    ·try simp only [go_sem,s1.k,s1.r,s1.c,s1.p,s1.o,s1.f]
     cases h
     simp only [go_sem,s1.k,s1.r,s1.c,s1.p,s1.o,s1.f]
    ·try simp only [go_sem,s1.k,s1.r,s1.c,s1.p,s1.o,s1.f]
     refine GM ?_
     try simp only [go_sem,s1.k,s1.r,s1.c,s1.p,s1.o,s1.f]
     refine WT (DN rfl rfl (ih0 a0 (IntKind.i64.wrap (u+1)) f1 g1 c1 s1 h1 _ h):) (.one ⟨_,.done _,[],[],?_⟩)
     try simp only [go_sem,s1.k,s1.r,s1.c,s1.p,s1.o,s1.f]
   ·try simp only [go_sem,s1.k,s1.r,s1.c,s1.p,s1.o,s1.f]
    refine GM ?_
    try simp only [go_sem,s1.k,s1.r,s1.c,s1.p,s1.o,s1.f]
    cases h
    simp only [go_sem,s1.k,s1.r,s1.c,s1.p,s1.o,s1.f]
theorem Lz (a0:List Int) (f1:(Int→Option Bool)) (g1:FuncId) (c1:List AV) (s1:Still c1) (h1:∀ (y0:Int) (q:Bool),f1 y0=some q→AC Tryz.prog g1 (fnA c1 [.int .i64 y0]) (.bool q)) (r:Int) (h:FA a0 f1=some r):AC Tryz.prog 160 [.ro (a0.map Ar),.fn g1 c1] (.int .i64 r):=by
 unfold FA at h
 refine acF Tryz.func160 mixed (h:=?_)
 try simp only [go_sem,s1.k,s1.r,s1.c,s1.p,s1.o,s1.f]
 refine D0 (DN rfl rfl (KP fuel a0 0 f1 g1 c1 s1 h1 _ h):) (.one ⟨_,.done _,[],[],?_⟩)
 try simp only [go_sem,s1.k,s1.r,s1.c,s1.p,s1.o,s1.f]
theorem KQ (a0:List Int) (f1:(Int→Option Bool)) (g1:FuncId) (c1:List AV) (s1:Still c1) (h1:∀ (y0:Int) (q:Bool),f1 y0=some q→AC Tryz.prog g1 (fnA c1 [.int .i64 y0]) (.bool q)) (r:Bool) (h:CB a0 f1=some r):AC Tryz.prog 152 [.ro (a0.map Ar),.fn g1 c1] (.bool r):=by
 unfold CB at h
 refine acF Tryz.func152 mixed (h:=?_)
 try simp only [go_sem,s1.k,s1.r,s1.c,s1.p,s1.o,s1.f]
 replace h:=AD h; obtain⟨u,w,h⟩:=h
 refine AH (Lz _ _ g1 c1 s1 h1 _ w) ?_
 try simp only [go_sem,s1.k,s1.r,s1.c,s1.p,s1.o,s1.f]
 refine GM ?_
 try simp only [go_sem,s1.k,s1.r,s1.c,s1.p,s1.o,s1.f]
 cases h
 simp only [go_sem,s1.k,s1.r,s1.c,s1.p,s1.o,s1.f]
theorem Lw (a0 r) (h:F9 a0=some r):AC Tryz.prog 154 [.int .i64 a0] (.bool r):=by
 unfold F9 at h
 refine acF Tryz.func154 mixed (h:=Z ?_)
 refine AB h (fun h=>Z ?_) (fun h=>Z ?_)
 ·refine AF ?_
  cases h
  simp only [go_sem]
 ·refine AF ?_
  cases h
  simp only [go_sem]
theorem Pm (a0 r) (h:Fu a0=some r):AC Tryz.prog 153 [.int .i64 a0] (.bool r):=by
 unfold Fu at h
 refine acF Tryz.func153 mixed (h:=Z ?_)
 replace h:=AD h; obtain⟨u,w,h⟩:=h
 refine AH (Lw _ _ w) (Z ?_)
 refine AF ?_
 cases h
 simp only [go_sem]
theorem S6 (a0 r) (h:NK a0=some r):AC Tryz.prog 155 [.int .i64 a0] (.bool r):=by
 unfold NK at h
 refine acF Tryz.func155 mixed (h:=Z ?_)
 refine AB h (fun h=>Z ?_) (fun h=>Z ?_)
 ·refine AF ?_
  cases h
  simp only [go_sem]
 ·refine AF ?_
  cases h
  simp only [go_sem]
theorem Lx (a0 r) (h:GA a0=some r):AC Tryz.prog 156 [.int .i64 a0] (.bool r):=by
 unfold GA at h
 refine acF Tryz.func156 mixed (h:=Z ?_)
 refine AB h (fun h=>Z ?_) (fun h=>Z ?_)
 ·refine AF ?_
  cases h
  simp only [go_sem]
 ·refine AF ?_
  cases h
  simp only [go_sem]
theorem A6 (u:Bool) (w:Bool) (r:Bool) (h:Aw u w=some r):Af Tryz.prog Tryz.f136 [1,1,1,1,1] (.bool r) ⟨[(3,.bool u),(4,.bool w)],[],[]⟩:=by
 unfold Aw at h
 refine AN rfl rfl (Z ?_)
 refine AB h (fun h=>Z ?_) (fun h=>Z ?_)
 ·refine AF ?_
  cases h
  simp only [go_sem]
 ·refine AF ?_
  cases h
  simp only [go_sem]
theorem Gk (a0:Agent) (u:Bool) (r:Bool) (h:Cn a0 u=some r):Af Tryz.prog Tryz.f136 [1,0,1] (.bool r) ⟨[(1,.box 1000000500 0),(32,.bool u)],[],[(1000000500,some [.int .i64 a0.kind,.int .i64 a0.level,.int .i64 a0.value,.ro (a0.data.map Ar),.ro (a0.ports.map Port.ds)])]⟩:=by
 unfold Cn at h
 refine AN rfl rfl (Z ?_)
 refine AB h (fun h=>Z ?_) (fun h=>Z ?_)
 ·cases h
  simp only [go_sem]
 ·refine AF ?_
  refine AX [] .fin (by kernel_rfl) (Z ?_)
  refine AF ?_
  replace h:=AD h; obtain⟨w,y,h⟩:=h
  refine AH (KQ _ _ 153 [] (Still.of rfl) (fun y0 q hq=>Pm y0  q hq) _ y) (Z ?_)
  refine AF ?_
  refine AB h (fun h=>Z ?_) (fun h=>Z ?_)
  ·replace h:=AD h; obtain⟨g,j,h⟩:=h
   refine AH (S6 _ _ j) (Z ?_)
   exact AR (A6 g (decide ((a0.data.length:Int)=0)) _ h) [] []
  ·refine AB h (fun h=>Z ?_) (fun h=>Z ?_)
   ·replace h:=AD h; obtain⟨k,b,h⟩:=h
    refine AH (Lx _ _ b) (Z ?_)
    exact AR (A6 k (decide ((a0.data.length:Int)=0)) _ h) [] []
   ·refine AB h (fun h=>Z ?_) (fun h=>Z ?_)
    ·replace h:=AD h; obtain⟨d,c,h⟩:=h
     refine AH (Lx _ _ c) (Z ?_)
     refine AB h (fun h=>Z ?_) (fun h=>Z ?_)
     ·refine AB h (fun h=>Z ?_) (fun h=>Z ?_)
      ·replace h:=AD h; obtain⟨e,i,h⟩:=h
       refine AL i rfl (Z ?_)
       replace h:=AD h; obtain⟨l,t,h⟩:=h
       refine AH (S6 _ _ t) (Z ?_)
       refine AF ?_
       cases h
       simp only [go_sem]
      ·refine AF ?_
       cases h
       simp only [go_sem]
     ·refine AF ?_
      cases h
      simp only [go_sem]
    ·refine AB h (fun h=>Z ?_) (fun h=>Z ?_)
     ·refine AB h (fun h=>Z ?_) (fun h=>Z ?_)
      ·exact AR (A6 (decide (a0.value<4)) (decide ((a0.data.length:Int)=0)) _ h) [] []
      ·exact AR (A6 false (decide ((a0.data.length:Int)=0)) _ h) [] []
     ·refine AB h (fun h=>Z ?_) (fun h=>Z ?_)
      ·refine AB h (fun h=>Z ?_) (fun h=>Z ?_)
       ·refine AB h (fun h=>Z ?_) (fun h=>Z ?_)
        ·exact AR (A6 (decide (a0.value=0)) (!w) _ h) [] []
        ·exact AR (A6 (decide (a0.value=0)) false _ h) [] []
       ·exact AR (A6 (decide (a0.value=0)) false _ h) [] []
      ·refine AB h (fun h=>Z ?_) (fun h=>Z ?_)
       ·refine AB h (fun h=>Z ?_) (fun h=>Z ?_)
        ·exact AR (A6 (decide (a0.value=0)) (!w) _ h) [] []
        ·exact AR (A6 (decide (a0.value=0)) false _ h) [] []
       ·refine AB h (fun h=>Z ?_) (fun h=>Z ?_)
        ·replace h:=AD h; obtain⟨s,o,h⟩:=h
         refine AH (Lw _ _ o) (Z ?_)
         exact AR (A6 s (decide ((a0.data.length:Int)=0)) _ h) [] []
        ·exact AR (A6 (decide (a0.value=0)) (decide ((a0.data.length:Int)=0)) _ h) [] []
theorem RD (a0 r) (h:HO a0=some r):AC Tryz.prog 136 [.agg (Agent.avs a0)] (.bool r):=by
 unfold HO at h
 refine acF Tryz.func136 mixed (h:=Z ?_)
 refine AX [] .fin (by kernel_rfl) (Z ?_)
 refine AB h (fun h=>Z ?_) (fun h=>Z ?_)
 ·exact AR (Gk a0 true _ h) [] [(1000000500,1000)]
 ·replace h:=AD h; obtain⟨u,w,h⟩:=h
  refine AH (Tc _ _ _ w) (Z ?_)
  replace h:=AD h; obtain⟨y,q,h⟩:=h
  refine AH (Pi _ _ _ q) (Z ?_)
  refine AB h (fun h=>Z ?_) (fun h=>Z ?_)
  ·exact AR (Gk a0 true _ h) [] [(1000000500,1000)]
  ·replace h:=AD h; obtain⟨g,j,h⟩:=h
   refine AH (HW _ _ _ j) (Z ?_)
   exact AR (Gk a0 (!g) _ h) [] [(1000000500,1000)]
theorem Of (n:Nat):(∀a0 u r,Cc n a0 u=some r→Af Tryz.prog Tryz.f104 [1,1,0,1,0] (.bool r) ⟨[(13,.ro (a0.map Agent.ds)),(14,.int .i64 (a0.length:Int)),(15,.int .i64 u)],[],[]⟩)∧
    (∀a0 u w r,Dv n a0 u w=some r→Af Tryz.prog Tryz.f104 [1,1,0,1,0,0,1,1,0,0,1,1] (.bool r) ⟨[(13,.ro (a0.map Agent.ds)),(14,.int .i64 (a0.length:Int)),(15,.int .i64 u),(30,.bool w)],[],[]⟩):=by
 induction n with
 |zero=>exact⟨(fun _ _ _ h=>by rw [Cc] at h; cases h),(fun _ _ _ _ h=>by rw [Dv] at h; cases h)⟩
 | succ n ih=>
  obtain⟨ih0,ih1⟩:=ih
  refine⟨?_,?_⟩
  ·intro a0 u r h
   rw [Cc] at h
   refine AN rfl rfl (Z ?_)
   refine AY (Z ?_)
   refine AB h (fun h=>Z ?_) (fun h=>Z ?_)
   ·refine AF ?_
    replace h:=AD h; obtain⟨y,q,h⟩:=h
    refine AL q (Agent.ds_len _) (Z ?_)
    refine AF ?_
    replace h:=AD h; obtain⟨g,j,h⟩:=h
    refine AH (RD _ _ j) (Z ?_)
    refine AB h (fun h=>Z ?_) (fun h=>Z ?_)
    ·exact AR (ih1 a0 u true _ h) [] []
    ·exact AR (ih1 a0 u (!((decide (y.kind=1)) == (decide (u=0)))) _ h) [] []
   ·refine AF ?_
    cases h
    simp only [go_sem]
  ·intro a0 u w r h
   rw [Dv] at h
   refine AN rfl rfl (Z ?_)
   refine AB h (fun h=>Z ?_) (fun h=>Z ?_)
   ·cases h
    simp only [go_sem]
   ·refine AF ?_
    exact lpF (ih0 a0 (IntKind.i64.wrap (u+1)) _ h) [] []
def Pn (n:Nat):=(Of n).1
theorem KD (a0:List Agent) (u:Bool) (r:Bool) (h:Fv a0 u=some r):Af Tryz.prog Tryz.f104 [1,0,1] (.bool r) ⟨[(0,.ro (a0.map Agent.ds)),(12,.bool u)],[],[]⟩:=by
 unfold Fv at h
 refine AN rfl rfl (Z ?_)
 refine AB h (fun h=>Z ?_) (fun h=>Z ?_)
 ·cases h
  simp only [go_sem]
 ·refine AF ?_
  exact loF (Pn fuel a0 0 _ h) [] []
theorem S7 (a0 r) (h:IP a0=some r):AC Tryz.prog 104 [.ro (a0.map Agent.ds)] (.bool r):=by
 unfold IP at h
 refine acF Tryz.func104 mixed (h:=Z ?_)
 refine AB h (fun h=>Z ?_) (fun h=>Z ?_)
 ·exact AR (KD a0 true _ h) [] []
 ·exact AR (KD a0 (decide (600<(a0.length:Int))) _ h) [] []
theorem Ia (n:Nat):(∀ (a0:List Port) (u:Int) (f1:(Port→Option Bool)) (g1:FuncId) (c1:List AV) (s1:Still c1) (h1:∀ (y0:Port) (q:Bool),f1 y0=some q→AC Tryz.prog g1 (fnA c1 [.agg (Port.avs y0)]) (.bool q)) (r:Int),A8 n a0 u f1=some r→Af Tryz.prog Tryz.f137 [1,0,1,0] (.int .i64 r) ⟨[(0,.ro (a0.map Port.ds)),(1,.fn g1 c1),(7,.int .i64 (a0.length:Int)),(8,.int .i64 u)],[],[]⟩):=by
 induction n with
 |zero=>exact((fun _ _ _ _ _ _ _ _ h=>by rw [A8] at h; cases h))
 | succ n ih=>
  have ih0:=ih
  ·intro a0 u f1 g1 c1 s1 h1 r h
   rw [A8] at h
   refine AN rfl rfl ?_
   try simp only [go_sem,s1.k,s1.r,s1.c,s1.p,s1.o,s1.f]
   refine AY ?_
   try simp only [go_sem,s1.k,s1.r,s1.c,s1.p,s1.o,s1.f]
   refine AB h (fun h=>?_) (fun h=>?_)
   ·try simp only [go_sem,s1.k,s1.r,s1.c,s1.p,s1.o,s1.f]
    refine GM ?_
    try simp only [go_sem,s1.k,s1.r,s1.c,s1.p,s1.o,s1.f]
    replace h:=AD h; obtain⟨w,y,h⟩:=h
    refine AL y (Port.ds_len _) ?_
    try simp only [go_sem,s1.k,s1.r,s1.c,s1.p,s1.o,s1.f]
    replace h:=AD h; obtain⟨g,j,h⟩:=h
    refine AH (h1 _ _ j) ?_
    try simp only [go_sem,s1.k,s1.r,s1.c,s1.p,s1.o,s1.f]
    refine GM ?_
    try simp only [go_sem,s1.k,s1.r,s1.c,s1.p,s1.o,s1.f]
    refine AB h (fun h=>?_) (fun h=>?_)
    ·try simp only [go_sem,s1.k,s1.r,s1.c,s1.p,s1.o,s1.f]
     cases h
     simp only [go_sem,s1.k,s1.r,s1.c,s1.p,s1.o,s1.f]
    ·try simp only [go_sem,s1.k,s1.r,s1.c,s1.p,s1.o,s1.f]
     refine GM ?_
     try simp only [go_sem,s1.k,s1.r,s1.c,s1.p,s1.o,s1.f]
     refine WT (DN rfl rfl (ih0 a0 (IntKind.i64.wrap (u+1)) f1 g1 c1 s1 h1 _ h):) (.one ⟨_,.done _,[],[],?_⟩)
     try simp only [go_sem,s1.k,s1.r,s1.c,s1.p,s1.o,s1.f]
   ·try simp only [go_sem,s1.k,s1.r,s1.c,s1.p,s1.o,s1.f]
    refine GM ?_
    try simp only [go_sem,s1.k,s1.r,s1.c,s1.p,s1.o,s1.f]
    cases h
    simp only [go_sem,s1.k,s1.r,s1.c,s1.p,s1.o,s1.f]
theorem Jw (a0:List Port) (f1:(Port→Option Bool)) (g1:FuncId) (c1:List AV) (s1:Still c1) (h1:∀ (y0:Port) (q:Bool),f1 y0=some q→AC Tryz.prog g1 (fnA c1 [.agg (Port.avs y0)]) (.bool q)) (r:Int) (h:DZ a0 f1=some r):AC Tryz.prog 137 [.ro (a0.map Port.ds),.fn g1 c1] (.int .i64 r):=by
 unfold DZ at h
 refine acF Tryz.func137 mixed (h:=?_)
 try simp only [go_sem,s1.k,s1.r,s1.c,s1.p,s1.o,s1.f]
 refine D0 (DN rfl rfl (Ia fuel a0 0 f1 g1 c1 s1 h1 _ h):) (.one ⟨_,.done _,[],[],?_⟩)
 try simp only [go_sem,s1.k,s1.r,s1.c,s1.p,s1.o,s1.f]
theorem Ib (a0:List Port) (f1:(Port→Option Bool)) (g1:FuncId) (c1:List AV) (s1:Still c1) (h1:∀ (y0:Port) (q:Bool),f1 y0=some q→AC Tryz.prog g1 (fnA c1 [.agg (Port.avs y0)]) (.bool q)) (r:Bool) (h:B6 a0 f1=some r):AC Tryz.prog 105 [.ro (a0.map Port.ds),.fn g1 c1] (.bool r):=by
 unfold B6 at h
 refine acF Tryz.func105 mixed (h:=?_)
 try simp only [go_sem,s1.k,s1.r,s1.c,s1.p,s1.o,s1.f]
 replace h:=AD h; obtain⟨u,w,h⟩:=h
 refine AH (Jw _ _ g1 c1 s1 h1 _ w) ?_
 try simp only [go_sem,s1.k,s1.r,s1.c,s1.p,s1.o,s1.f]
 refine GM ?_
 try simp only [go_sem,s1.k,s1.r,s1.c,s1.p,s1.o,s1.f]
 cases h
 simp only [go_sem,s1.k,s1.r,s1.c,s1.p,s1.o,s1.f]
theorem Og (n:Nat):(∀a0 u w r,CI n a0 u w=some r→Af Tryz.prog Tryz.f106 [1,1,0,1,0] (.ow (some 2) (r.map Port.ds)) ⟨[(3,.own 1000000000),(10,.ro (a0.agents.map Agent.ds)),(11,.int .i64 (a0.agents.length:Int)),(12,.int .i64 w)],[(1000000000,some ⟨List.map Port.ds u,some 2,0,false⟩)],[]⟩)∧
    (∀a0 w y q g r,DK n a0 w y q g=some r→Af Tryz.prog Tryz.f106 [1,1,0,1,0,0,1,1,0,0,1,1,0] (.ow (some 2) (r.map Port.ds)) ⟨[(3,.own 1000004000),(4,.int .i64 w),(10,.ro (a0.agents.map Agent.ds)),(11,.int .i64 (a0.agents.length:Int)),(12,.int .i64 w),(19,.int .i64 (y.ports.length:Int)),(20,.int .i64 g)],[(1000004000,some ⟨List.map Port.ds q,some 2,0,false⟩)],[]⟩):=by
 induction n with
 |zero=>exact⟨(fun _ _ _ _ h=>by rw [CI] at h; cases h),(fun _ _ _ _ _ _ h=>by rw [DK] at h; cases h)⟩
 | succ n ih=>
  obtain⟨ih0,ih1⟩:=ih
  refine⟨?_,?_⟩
  ·intro a0 u w r h
   rw [CI] at h
   refine AN rfl rfl (Z ?_)
   refine AY (Z ?_)
   refine AB h (fun h=>Z ?_) (fun h=>Z ?_)
   ·refine AF ?_
    replace h:=AD h; obtain⟨y,j,h⟩:=h
    refine AL j (Agent.ds_len _) (Z ?_)
    refine AF ?_
    exact loF (ih1 a0 w y u 0 _ h) [(1000004000,1000000000)] []
   ·refine AF ?_
    cases h
    simp only [go_sem]
  ·intro a0 w y q g r h
   rw [DK] at h
   refine AN rfl rfl (Z ?_)
   refine AY (Z ?_)
   refine AB h (fun h=>Z ?_) (fun h=>Z ?_)
   ·refine AF ?_
    replace h:=AD h; obtain⟨k,b,h⟩:=h
    have hq_:=An b
    obtain⟨hv9005a,hv9005b⟩:=hq_
    refine C3 false (Z ?_)
    refine Al (by refine⟨?_,?_⟩ <;> (try simp only [List.length_map,List.length_append,List.length_cons,List.length_nil] at*) <;> (try unfold maxLen) <;> omega) (Z ?_)
    refine Ag (k.map Port.ds) (by rw [← hv9005b]; simp only [List.map_append,List.map_cons,List.map_nil,List.nil_append,List.append_nil,go_sem,Port.ds_eq]) (Z ?_)
    refine AF ?_
    exact lpF (ih1 a0 w y k (IntKind.i64.wrap (g+1)) _ h) [(1000004000,144080)] []
   ·refine AF ?_
    exact lpF (ih0 a0 q (IntKind.i64.wrap (w+1)) _ h) [(1000000000,1000004000)] []
def Po (n:Nat):=(Og n).1
theorem Mz (a0 r) (h:Gx a0=some r):AC Tryz.prog 106 [.rop (Net.avs a0) 0] (.ow (some 2) (r.map Port.ds)):=by
 unfold Gx at h
 refine acF Tryz.func106 mixed (h:=Z ?_)
 refine D0 (DN rfl rfl (Po fuel a0 [] 0 _ h):) (.one ⟨_,.slot 3 2000000000 (some 2) false (by simp only [go_sem]) (by simp only [go_sem]) (.done _),[(1000000000,2000000000)],[],?_⟩)
 simp only [go_sem]
 all_goals try rfl
theorem EU (a0 a1 r) (h:Ct a0 a1=some r):AC Tryz.prog 108 [.rop (Net.avs a0) 0,.agg (Port.avs a1)] (.agg (Port.rv r)):=by
 unfold Ct at h
 refine acF Tryz.func108 mixed (h:=Z ?_)
 refine AF ?_
 refine AX [false,false,false,false,false,false,false,false,false,false,false,false,false,true] (Tr.sq [13] .fin) (by kernel_rfl) (Z ?_)
 replace h:=AD h; obtain⟨u,w,h⟩:=h
 refine AL w (Agent.ds_len _) (Z ?_)
 replace h:=AD h; obtain⟨y,q,h⟩:=h
 refine AL q (Port.ds_len _) (Z ?_)
 refine AF ?_
 cases h
 simp only [go_sem]
theorem Ve (a0 a1 r) (h:Ks a0 a1=some r):AC Tryz.prog 109 [.ro (a0.map Agent.ds),.agg (Port.avs a1)] (.bool r):=by
 unfold Ks at h
 refine acF Tryz.func109 mixed (h:=Z ?_)
 refine AX [] .fin (by kernel_rfl) (Z ?_)
 refine AB h (fun h=>Z ?_) (fun h=>Z ?_)
 ·refine AB h (fun h=>Z ?_) (fun h=>Z ?_)
  ·refine AB h (fun h=>Z ?_) (fun h=>Z ?_)
   ·replace h:=AD h; obtain⟨u,w,h⟩:=h
    refine AL w (Agent.ds_len _) (Z ?_)
    refine AF ?_
    cases h
    simp only [go_sem]
   ·refine AF ?_
    cases h
    simp only [go_sem]
  ·refine AF ?_
   cases h
   simp only [go_sem]
 ·refine AF ?_
  cases h
  simp only [go_sem]
theorem RE (a0 a1 r) (h:HP a0 a1=some r):AC Tryz.prog 107 [.agg (Port.avs a0),.rop (Net.avs a1) 0] (.bool r):=by
 unfold HP at h
 refine acF Tryz.func107 mixed (h:=Z ?_)
 replace h:=AD h; obtain⟨u,w,h⟩:=h
 refine AH (EU _ _ _ w) (Z ?_)
 refine AF ?_
 refine AX [] .fin (by kernel_rfl) (Z ?_)
 refine AB h (fun h=>Z ?_) (fun h=>Z ?_)
 ·refine AF ?_
  cases h
  simp only [go_sem]
 ·replace h:=AD h; obtain⟨y,q,h⟩:=h
  refine AH (Ve _ _ _ q) (Z ?_)
  refine AB h (fun h=>Z ?_) (fun h=>Z ?_)
  ·refine AF ?_
   cases h
   simp only [go_sem]
  ·replace h:=AD h; obtain⟨g,j,h⟩:=h
   refine AH (EU _ _ _ j) (Z ?_)
   refine AF ?_
   cases h
   simp only [go_sem]
theorem KJ (a0 r) (h:Gf a0=some r):AC Tryz.prog 64 [.agg (Net.avs a0)] (.bool r):=by
 unfold Gf at h
 refine acF Tryz.func64 mixed (h:=Z ?_)
 replace h:=AD h; obtain⟨u,w,h⟩:=h
 refine AH (S7 _ _ w) (Z ?_)
 refine AF ?_
 refine AB h (fun h=>Z ?_) (fun h=>Z ?_)
 ·cases h
  simp only [go_sem]
 ·refine AF ?_
  replace h:=AD h; obtain⟨y,g,h⟩:=h
  refine AH (Mz _ _ g) (Z ?_)
  replace h:=AD h; obtain⟨j,k,h⟩:=h
  refine AH (Ib _ _ 107 [.agg [],.rop [.ro (a0.agents.map Agent.ds)] 0] (Still.of (by simp only [Eu,GP,Bool.and_true,Bool.true_and,Bool.and_self])) (fun y0 q hq=>RE y0 _ q hq) _ k) (Z ?_)
  refine AF ?_
  cases h
  simp only [go_sem]
theorem By (a0 a1 a2 r) (h:C4 a0 a1 a2=some r):AC Tryz.prog 43 [.int .i64 a0,.int .i64 a1,.int .i64 a2] (.bool r):=by
 unfold C4 at h
 refine acF Tryz.func43 mixed (h:=Z ?_)
 refine AB h (fun h=>Z ?_) (fun h=>Z ?_)
 ·refine AF ?_
  cases h
  simp only [go_sem]
 ·refine AF ?_
  cases h
  simp only [go_sem]
theorem Ha (a0 r) (h:CR a0=some r):AC Tryz.prog 58 [.rop (Agent.avs a0) 0] (.int .i64 r):=by
 unfold CR at h
 refine acF Tryz.func58 mixed (h:=Z ?_)
 refine AB h (fun h=>Z ?_) (fun h=>Z ?_)
 ·cases h
  simp only [go_sem]
 ·refine AF ?_
  cases h
  simp only [go_sem]
theorem Gc (u:Bool) (r:Int) (h:FB u=some r):Af Tryz.prog Tryz.f126 [1,1,1,0,1,0,1,1,1,1,1] (.int .i64 r) ⟨[(23,.bool u)],[],[]⟩:=by
 unfold FB at h
 refine AN rfl rfl (Z ?_)
 refine AB h (fun h=>Z ?_) (fun h=>Z ?_)
 ·cases h
  simp only [go_sem]
 ·refine AF ?_
  cases h
  simp only [go_sem]
theorem Ic (a0:Int) (u:Bool) (r:Int) (h:GB a0 u=some r):Af Tryz.prog Tryz.f126 [1,1,1,0,1,0,1,1,1] (.int .i64 r) ⟨[(13,.int .i64 a0),(19,.bool u)],[],[]⟩:=by
 unfold GB at h
 refine AN rfl rfl (Z ?_)
 refine AB h (fun h=>Z ?_) (fun h=>Z ?_)
 ·cases h
  simp only [go_sem]
 ·refine AB h (fun h=>Z ?_) (fun h=>Z ?_)
  ·exact AR (Gc (decide (a0=2)) _ h) [] []
  ·refine AB h (fun h=>Z ?_) (fun h=>Z ?_)
   ·exact AR (Gc (decide (a0=3)) _ h) [] []
   ·refine AB h (fun h=>Z ?_) (fun h=>Z ?_)
    ·exact AR (Gc (decide (a0=4)) _ h) [] []
    ·exact AR (Gc (decide (a0=7)) _ h) [] []
theorem Gd (a0:Int) (u:Bool) (r:Int) (h:FC a0 u=some r):Af Tryz.prog Tryz.f126 [1,1,1,0,1,0,1] (.int .i64 r) ⟨[(13,.int .i64 a0),(14,.bool u)],[],[]⟩:=by
 unfold FC at h
 refine AN rfl rfl (Z ?_)
 refine AB h (fun h=>Z ?_) (fun h=>Z ?_)
 ·cases h
  simp only [go_sem]
 ·refine AB h (fun h=>Z ?_) (fun h=>Z ?_)
  ·exact AR (Ic a0 (decide (a0=8)) _ h) [] []
  ·refine AB h (fun h=>Z ?_) (fun h=>Z ?_)
   ·exact AR (Ic a0 (decide (a0=10)) _ h) [] []
   ·exact AR (Ic a0 (decide (a0=11)) _ h) [] []
theorem Vf (a0 a1 r) (h:JB a0 a1=some r):AC Tryz.prog 126 [.int .i64 a0,.int .i64 a1] (.int .i64 r):=by
 unfold JB at h
 refine acF Tryz.func126 mixed (h:=Z ?_)
 refine AB h (fun h=>Z ?_) (fun h=>Z ?_)
 ·replace h:=AD h; obtain⟨u,w,h⟩:=h
  refine AH (By _ _ _ _ w) (Z ?_)
  refine AF ?_
  refine AB h (fun h=>Z ?_) (fun h=>Z ?_)
  ·cases h
   simp only [go_sem]
  ·refine AF ?_
   cases h
   simp only [go_sem]
 ·refine AF ?_
  refine AB h (fun h=>Z ?_) (fun h=>Z ?_)
  ·cases h
   simp only [go_sem]
  ·refine AF ?_
   refine AB h (fun h=>Z ?_) (fun h=>Z ?_)
   ·exact AR (Gd a0 (decide (a0=1)) _ h) [] []
   ·refine AB h (fun h=>Z ?_) (fun h=>Z ?_)
    ·exact AR (Gd a0 (decide (a0=5)) _ h) [] []
    ·refine AB h (fun h=>Z ?_) (fun h=>Z ?_)
     ·exact AR (Gd a0 (decide (a0=6)) _ h) [] []
     ·exact AR (Gd a0 (decide (a0=12)) _ h) [] []
theorem B5 (u:Bool) (r:Bool) (h:BE u=some r):Af Tryz.prog Tryz.f98 [1,0,1,0,1] (.bool r) ⟨[(4,.bool u)],[],[]⟩:=by
 unfold BE at h
 refine AN rfl rfl (Z ?_)
 refine AB h (fun h=>Z ?_) (fun h=>Z ?_)
 ·cases h
  simp only [go_sem]
 ·refine AF ?_
  cases h
  simp only [go_sem]
theorem KM (a0 r) (h:EL a0=some r):AC Tryz.prog 98 [.int .i64 a0] (.bool r):=by
 unfold EL at h
 refine acF Tryz.func98 mixed (h:=Z ?_)
 refine AB h (fun h=>Z ?_) (fun h=>Z ?_)
 ·exact AR (B5 (decide (a0=2)) _ h) [] []
 ·refine AB h (fun h=>Z ?_) (fun h=>Z ?_)
  ·exact AR (B5 (decide (a0=3)) _ h) [] []
  ·refine AB h (fun h=>Z ?_) (fun h=>Z ?_)
   ·exact AR (B5 (decide (a0=4)) _ h) [] []
   ·refine AB h (fun h=>Z ?_) (fun h=>Z ?_)
    ·exact AR (B5 (decide (a0=7)) _ h) [] []
    ·refine AB h (fun h=>Z ?_) (fun h=>Z ?_)
     ·exact AR (B5 (decide (a0=8)) _ h) [] []
     ·refine AB h (fun h=>Z ?_) (fun h=>Z ?_)
      ·exact AR (B5 (decide (a0=9)) _ h) [] []
      ·refine AB h (fun h=>Z ?_) (fun h=>Z ?_)
       ·exact AR (B5 (decide (a0=10)) _ h) [] []
       ·refine AB h (fun h=>Z ?_) (fun h=>Z ?_)
        ·exact AR (B5 (decide (a0=11)) _ h) [] []
        ·exact AR (B5 (decide (a0=12)) _ h) [] []
theorem Vg (a0 r) (h:Kt a0=some r):AC Tryz.prog 147 [.int .i64 a0] (.bool r):=by
 unfold Kt at h
 refine acF Tryz.func147 mixed (h:=Z ?_)
 replace h:=AD h; obtain⟨u,w,h⟩:=h
 refine AH (By _ _ _ _ w) (Z ?_)
 refine AF ?_
 cases h
 simp only [go_sem]
theorem H6 (a0 a1 r) (h:Ez a0 a1=some r):AC Tryz.prog 127 [.int .i64 a0,.int .i64 a1] (.bool r):=by
 unfold Ez at h
 refine acF Tryz.func127 mixed (h:=Z ?_)
 replace h:=AD h; obtain⟨u,w,h⟩:=h
 refine AH (KM _ _ w) (Z ?_)
 refine AF ?_
 refine AB h (fun h=>Z ?_) (fun h=>Z ?_)
 ·replace h:=AD h; obtain⟨y,q,h⟩:=h
  refine AH (By _ _ _ _ q) (Z ?_)
  refine AF ?_
  cases h
  simp only [go_sem]
 ·refine AF ?_
  replace h:=AD h; obtain⟨g,j,h⟩:=h
  refine AH (Vg _ _ j) (Z ?_)
  refine AB h (fun h=>Z ?_) (fun h=>Z ?_)
  ·refine AF ?_
   cases h
   simp only [go_sem]
  ·refine AF ?_
   cases h
   simp only [go_sem]
theorem Qt (a0 r) (h:Jd a0=some r):AC Tryz.prog 148 [.int .i64 a0] (.bool r):=by
 unfold Jd at h
 refine acF Tryz.func148 mixed (h:=Z ?_)
 replace h:=AD h; obtain⟨u,w,h⟩:=h
 refine AH (By _ _ _ _ w) (Z ?_)
 refine AF ?_
 cases h
 simp only [go_sem]
theorem Oh (n:Nat):(∀a0 u r,Co n a0 u=some r→Af Tryz.prog Tryz.f128 [1,0,1,0,1,1,1,1,1,1,1,1,1,1,1,0,1,0,1,0] (.bool r) ⟨[(0,.rop [.int .i64 a0.kind,.int .i64 a0.level,.int .i64 a0.value,.ro (a0.data.map Ar),.ro (a0.ports.map Port.ds)] 0),(3,.int .i64 u)],[],[]⟩):=by
 induction n with
 |zero=>exact((fun _ _ _ h=>by rw [Co] at h; cases h))
 | succ n ih=>
  have ih0:=ih
  ·intro a0 u r h
   rw [Co] at h
   refine AN rfl rfl (Z ?_)
   refine AY (Z ?_)
   refine AB h (fun h=>Z ?_) (fun h=>Z ?_)
   ·refine AF ?_
    replace h:=AD h; obtain⟨w,y,h⟩:=h
    refine AL y rfl (Z ?_)
    replace h:=AD h; obtain⟨q,g,h⟩:=h
    refine AH (Qt _ _ g) (Z ?_)
    refine AF ?_
    refine AB h (fun h=>Z ?_) (fun h=>Z ?_)
    ·cases h
     simp only [go_sem]
    ·refine AF ?_
     exact lpF (ih0 a0 (IntKind.i64.wrap (u+1)) _ h) [] []
   ·refine AF ?_
    cases h
    simp only [go_sem]
theorem C2 (a0:Agent) (u:Bool) (r:Bool) (h:CM a0 u=some r):Af Tryz.prog Tryz.f128 [1,0,1,0,1,1,1,1,1,1,1,1,1,1,1,0,0,1] (.bool r) ⟨[(0,.rop [.int .i64 a0.kind,.int .i64 a0.level,.int .i64 a0.value,.ro (a0.data.map Ar),.ro (a0.ports.map Port.ds)] 0),(130,.bool u)],[],[]⟩:=by
 unfold CM at h
 refine AN rfl rfl (Z ?_)
 refine AB h (fun h=>Z ?_) (fun h=>Z ?_)
 ·cases h
  simp only [go_sem]
 ·refine AF ?_
  exact loF (Oh fuel a0 0 _ h) [] []
theorem Jr (a0:Agent) (u:Bool) (r:Bool) (h:FL a0 u=some r):Af Tryz.prog Tryz.f128 [1,0,1,0,1,1,1,1,1,1,1,1,1,1,1] (.bool r) ⟨[(0,.rop [.int .i64 a0.kind,.int .i64 a0.level,.int .i64 a0.value,.ro (a0.data.map Ar),.ro (a0.ports.map Port.ds)] 0),(92,.bool u)],[],[]⟩:=by
 unfold FL at h
 refine AN rfl rfl (Z ?_)
 refine AB h (fun h=>Z ?_) (fun h=>Z ?_)
 ·refine AB h (fun h=>Z ?_) (fun h=>Z ?_)
  ·exact AR (C2 a0 true _ h) [] []
  ·refine AB h (fun h=>Z ?_) (fun h=>Z ?_)
   ·refine AB h (fun h=>Z ?_) (fun h=>Z ?_)
    ·exact AR (C2 a0 true _ h) [] []
    ·refine AB h (fun h=>Z ?_) (fun h=>Z ?_)
     ·replace h:=AD h; obtain⟨w,y,h⟩:=h
      refine AH (By _ _ _ _ y) (Z ?_)
      exact AR (C2 a0 (!w) _ h) [] []
     ·exact AR (C2 a0 false _ h) [] []
   ·refine AB h (fun h=>Z ?_) (fun h=>Z ?_)
    ·replace h:=AD h; obtain⟨w,y,h⟩:=h
     refine AH (By _ _ _ _ y) (Z ?_)
     exact AR (C2 a0 (!w) _ h) [] []
    ·exact AR (C2 a0 false _ h) [] []
 ·refine AF ?_
  refine AB h (fun h=>Z ?_) (fun h=>Z ?_)
  ·refine AF ?_
   cases h
   simp only [go_sem]
  ·refine AF ?_
   cases h
   simp only [go_sem]
theorem RF (a0 r) (h:HQ a0=some r):AC Tryz.prog 128 [.rop (Agent.avs a0) 0] (.bool r):=by
 unfold HQ at h
 refine acF Tryz.func128 mixed (h:=Z ?_)
 refine AB h (fun h=>Z ?_) (fun h=>Z ?_)
 ·refine AB h (fun h=>Z ?_) (fun h=>Z ?_)
  ·replace h:=AD h; obtain⟨u,w,h⟩:=h
   refine AH (By _ _ _ _ w) (Z ?_)
   refine AF ?_
   cases h
   simp only [go_sem]
  ·refine AF ?_
   cases h
   simp only [go_sem]
 ·refine AB h (fun h=>Z ?_) (fun h=>Z ?_)
  ·refine AB h (fun h=>Z ?_) (fun h=>Z ?_)
   ·replace h:=AD h; obtain⟨y,q,h⟩:=h
    refine AH (By _ _ _ _ q) (Z ?_)
    refine AF ?_
    cases h
    simp only [go_sem]
   ·refine AF ?_
    cases h
    simp only [go_sem]
  ·refine AB h (fun h=>Z ?_) (fun h=>Z ?_)
   ·refine AB h (fun h=>Z ?_) (fun h=>Z ?_)
    ·replace h:=AD h; obtain⟨g,j,h⟩:=h
     refine AH (By _ _ _ _ j) (Z ?_)
     refine AB h (fun h=>Z ?_) (fun h=>Z ?_)
     ·replace h:=AD h; obtain⟨k,b,h⟩:=h
      refine AL b rfl (Z ?_)
      replace h:=AD h; obtain⟨d,c,h⟩:=h
      refine AH (By _ _ _ _ c) (Z ?_)
      refine AF ?_
      cases h
      simp only [go_sem]
     ·refine AF ?_
      cases h
      simp only [go_sem]
    ·refine AF ?_
     cases h
     simp only [go_sem]
   ·refine AB h (fun h=>Z ?_) (fun h=>Z ?_)
    ·refine AB h (fun h=>Z ?_) (fun h=>Z ?_)
     ·replace h:=AD h; obtain⟨e,i,h⟩:=h
      refine AH (By _ _ _ _ i) (Z ?_)
      refine AF ?_
      cases h
      simp only [go_sem]
     ·refine AF ?_
      cases h
      simp only [go_sem]
    ·refine AB h (fun h=>Z ?_) (fun h=>Z ?_)
     ·refine AB h (fun h=>Z ?_) (fun h=>Z ?_)
      ·replace h:=AD h; obtain⟨l,t,h⟩:=h
       refine AH (Qt _ _ t) (Z ?_)
       refine AF ?_
       cases h
       simp only [go_sem]
      ·refine AF ?_
       cases h
       simp only [go_sem]
     ·refine AB h (fun h=>Z ?_) (fun h=>Z ?_)
      ·exact AR (Jr a0 (decide (a0.kind=10)) _ h) [] []
      ·exact AR (Jr a0 (decide (a0.kind=11)) _ h) [] []
theorem Td (a0 r) (h:Je a0=some r):AC Tryz.prog 87 [.rop (Agent.avs a0) 0] (.bool r):=by
 unfold Je at h
 refine acF Tryz.func87 mixed (h:=Z ?_)
 refine AX [] .fin (by kernel_rfl) (Z ?_)
 replace h:=AD h; obtain⟨u,w,h⟩:=h
 refine AH (Ha _ _ w) (Z ?_)
 replace h:=AD h; obtain⟨y,q,h⟩:=h
 refine AH (Vf _ _ _ q) (Z ?_)
 refine AF ?_
 refine AX [] .fin (by kernel_rfl) (Z ?_)
 refine AB h (fun h=>Z ?_) (fun h=>Z ?_)
 ·refine AB h (fun h=>Z ?_) (fun h=>Z ?_)
  ·replace h:=AD h; obtain⟨g,j,h⟩:=h
   refine AH (H6 _ _ _ j) (Z ?_)
   refine AB h (fun h=>Z ?_) (fun h=>Z ?_)
   ·replace h:=AD h; obtain⟨k,b,h⟩:=h
    refine AH (RF _ _ b) (Z ?_)
    refine AF ?_
    cases h
    simp only [go_sem]
   ·refine AF ?_
    cases h
    simp only [go_sem]
  ·refine AF ?_
   cases h
   simp only [go_sem]
 ·refine AF ?_
  cases h
  simp only [go_sem]
theorem Oi (n:Nat):(∀a0 u r,Cd n a0 u=some r→Af Tryz.prog Tryz.f37 [1,1,0,1,0] (.bool r) ⟨[(0,.ro (a0.map Agent.ds)),(3,.int .i64 u)],[],[]⟩)∧
    (∀a0 u w r,Dw n a0 u w=some r→Af Tryz.prog Tryz.f37 [1,1,0,1,0,0,1,0,0,1] (.bool r) ⟨[(0,.ro (a0.map Agent.ds)),(3,.int .i64 u),(29,.bool w)],[],[]⟩):=by
 induction n with
 |zero=>exact⟨(fun _ _ _ h=>by rw [Cd] at h; cases h),(fun _ _ _ _ h=>by rw [Dw] at h; cases h)⟩
 | succ n ih=>
  obtain⟨ih0,ih1⟩:=ih
  refine⟨?_,?_⟩
  ·intro a0 u r h
   rw [Cd] at h
   refine AN rfl rfl (Z ?_)
   refine AY (Z ?_)
   refine AB h (fun h=>Z ?_) (fun h=>Z ?_)
   ·refine AF ?_
    replace h:=AD h; obtain⟨y,q,h⟩:=h
    refine AL q (Agent.ds_len _) (Z ?_)
    replace h:=AD h; obtain⟨g,j,h⟩:=h
    refine AH (Td _ _ j) (Z ?_)
    refine AB h (fun h=>Z ?_) (fun h=>Z ?_)
    ·exact AR (ih1 a0 u true _ h) [] []
    ·replace h:=AD h; obtain⟨k,b,h⟩:=h
     refine AL b (Agent.ds_len _) (Z ?_)
     exact AR (ih1 a0 u (!((decide (k.kind=1)) == (decide (u=0)))) _ h) [] []
   ·refine AF ?_
    cases h
    simp only [go_sem]
  ·intro a0 u w r h
   rw [Dw] at h
   refine AN rfl rfl (Z ?_)
   refine AB h (fun h=>Z ?_) (fun h=>Z ?_)
   ·cases h
    simp only [go_sem]
   ·refine AF ?_
    exact lpF (ih0 a0 (IntKind.i64.wrap (u+1)) _ h) [] []
def Pp (n:Nat):=(Oi n).1
theorem S8 (a0 r) (h:IQ a0=some r):AC Tryz.prog 37 [.ro (a0.map Agent.ds)] (.bool r):=by
 unfold IQ at h
 refine acF Tryz.func37 mixed (h:=Z ?_)
 replace h:=AD h; obtain⟨u,w,h⟩:=h
 refine AH (By _ _ _ _ w) (Z ?_)
 refine AF ?_
 refine AB h (fun h=>Z ?_) (fun h=>Z ?_)
 ·cases h
  simp only [go_sem]
 ·refine AF ?_
  exact loF (Pp fuel a0 0 _ h) [] []
theorem Vh (a0 a1 r) (h:Ku a0 a1=some r):AC Tryz.prog 38 [.ro (a0.map Agent.ds),.agg (Port.avs a1)] (.bool r):=by
 unfold Ku at h
 refine acF Tryz.func38 mixed (h:=Z ?_)
 refine AX [] .fin (by kernel_rfl) (Z ?_)
 replace h:=AD h; obtain⟨u,w,h⟩:=h
 refine AH (By _ _ _ _ w) (Z ?_)
 refine AB h (fun h=>Z ?_) (fun h=>Z ?_)
 ·replace h:=AD h; obtain⟨y,q,h⟩:=h
  refine AL q (Agent.ds_len _) (Z ?_)
  replace h:=AD h; obtain⟨g,j,h⟩:=h
  refine AH (By _ _ _ _ j) (Z ?_)
  refine AF ?_
  cases h
  simp only [go_sem]
 ·refine AF ?_
  cases h
  simp only [go_sem]
theorem S9 (n:Nat):(∀a0 u r,ET n a0 u=some r→Af Tryz.prog Tryz.f20 [1,1,0,1,0] (.bool r) ⟨[(0,.rop [.ro (a0.agents.map Agent.ds)] 0),(3,.int .i64 u)],[],[]⟩)∧
    (∀a0 u w y r,Ep n a0 u w y=some r→Af Tryz.prog Tryz.f20 [1,1,0,1,0,0,1,0,0,1,1,0] (.bool r) ⟨[(0,.rop [.ro (a0.agents.map Agent.ds)] 0),(3,.int .i64 u),(4,.rop [.int .i64 w.kind,.int .i64 w.level,.int .i64 w.value,.ro (w.data.map Ar),.ro (w.ports.map Port.ds)] 0),(5,.int .i64 y)],[],[]⟩)∧
    (∀a0 u y w q r,Er n a0 u y w q=some r→Af Tryz.prog Tryz.f20 [1,1,0,1,0,0,1,0,0,1,1,0,0,1,0,0,1,1,1] (.bool r) ⟨[(0,.rop [.ro (a0.agents.map Agent.ds)] 0),(3,.int .i64 u),(4,.rop [.int .i64 w.kind,.int .i64 w.level,.int .i64 w.value,.ro (w.data.map Ar),.ro (w.ports.map Port.ds)] 0),(5,.int .i64 y),(76,.bool q)],[],[]⟩):=by
 induction n with
 |zero=>exact⟨(fun _ _ _ h=>by rw [ET] at h; cases h),(fun _ _ _ _ _ h=>by rw [Ep] at h; cases h),(fun _ _ _ _ _ _ h=>by rw [Er] at h; cases h)⟩
 | succ n ih=>
  obtain⟨ih0,ih1,ih2⟩:=ih
  refine⟨?_,?_,?_⟩
  ·intro a0 u r h
   rw [ET] at h
   refine AN rfl rfl (Z ?_)
   refine AY (Z ?_)
   refine AB h (fun h=>Z ?_) (fun h=>Z ?_)
   ·refine AF ?_
    replace h:=AD h; obtain⟨w,g,h⟩:=h
    refine AL g (Agent.ds_len _) (Z ?_)
    exact loF (ih1 a0 u w 0 _ h) [] []
   ·refine AF ?_
    cases h
    simp only [go_sem]
  ·intro a0 u w y r h
   rw [Ep] at h
   refine AN rfl rfl (Z ?_)
   refine AY (Z ?_)
   refine AB h (fun h=>Z ?_) (fun h=>Z ?_)
   ·refine AF ?_
    refine AF ?_
    replace h:=AD h; obtain⟨j,k,h⟩:=h
    refine AL k (Port.ds_len _) (Z ?_)
    refine AF ?_
    refine AX [] .fin (by kernel_rfl) (Z ?_)
    refine AB h (fun h=>Z ?_) (fun h=>Z ?_)
    ·exact AR (ih2 a0 u y w true _ h) [] []
    ·replace h:=AD h; obtain⟨b,d,h⟩:=h
     refine AH (Vh _ _ _ d) (Z ?_)
     refine AB h (fun h=>Z ?_) (fun h=>Z ?_)
     ·exact AR (ih2 a0 u y w true _ h) [] []
     ·replace h:=AD h; obtain⟨c,e,h⟩:=h
      refine AL e (Agent.ds_len _) (Z ?_)
      replace h:=AD h; obtain⟨i,l,h⟩:=h
      refine AL l (Port.ds_len _) (Z ?_)
      exact AR (ih2 a0 u y w (!(decide (i.agent=u)&&decide (i.slot=y))) _ h) [] []
   ·refine AF ?_
    exact lpF (ih0 a0 (IntKind.i64.wrap (u+1)) _ h) [] []
  ·intro a0 u y w q r h
   rw [Er] at h
   refine AN rfl rfl (Z ?_)
   refine AB h (fun h=>Z ?_) (fun h=>Z ?_)
   ·cases h
    simp only [go_sem]
   ·refine AF ?_
    exact lpF (ih1 a0 u w (IntKind.i64.wrap (y+1)) _ h) [] []
def Te (n:Nat):=(S9 n).1
theorem Oa (a0 r) (h:J3 a0=some r):AC Tryz.prog 20 [.rop (Net.avs a0) 0] (.bool r):=by
 unfold J3 at h
 refine acF Tryz.func20 mixed (h:=Z ?_)
 replace h:=AD h; obtain⟨u,w,h⟩:=h
 refine AH (S8 _ _ w) (Z ?_)
 refine AF ?_
 refine AB h (fun h=>Z ?_) (fun h=>Z ?_)
 ·cases h
  simp only [go_sem]
 ·refine AF ?_
  exact loF (Te fuel a0 0 _ h) [] []
theorem Iu (n:Nat):(∀ (a0:List Net) (u:Int) (f1:(Net→Option Bool)) (g1:FuncId) (c1:List AV) (s1:Still c1) (h1:∀ (y0:Net) (q:Bool),f1 y0=some q→AC Tryz.prog g1 (fnA c1 [.agg (Net.avs y0)]) (.bool q)) (r:Int),BF n a0 u f1=some r→Af Tryz.prog Tryz.f103 [1,0,1,0] (.int .i64 r) ⟨[(0,.ro (a0.map Net.ds)),(1,.fn g1 c1),(7,.int .i64 (a0.length:Int)),(8,.int .i64 u)],[],[]⟩):=by
 induction n with
 |zero=>exact((fun _ _ _ _ _ _ _ _ h=>by rw [BF] at h; cases h))
 | succ n ih=>
  have ih0:=ih
  ·intro a0 u f1 g1 c1 s1 h1 r h
   rw [BF] at h
   refine AN rfl rfl ?_
   try simp only [go_sem,s1.k,s1.r,s1.c,s1.p,s1.o,s1.f]
   refine AY ?_
   try simp only [go_sem,s1.k,s1.r,s1.c,s1.p,s1.o,s1.f]
   refine AB h (fun h=>?_) (fun h=>?_)
   ·try simp only [go_sem,s1.k,s1.r,s1.c,s1.p,s1.o,s1.f]
    refine GM ?_
    try simp only [go_sem,s1.k,s1.r,s1.c,s1.p,s1.o,s1.f]
    replace h:=AD h; obtain⟨w,y,h⟩:=h
    refine AL y (Net.ds_len _) ?_
    try simp only [go_sem,s1.k,s1.r,s1.c,s1.p,s1.o,s1.f]
    replace h:=AD h; obtain⟨g,j,h⟩:=h
    refine AH (h1 _ _ j) ?_
    try simp only [go_sem,s1.k,s1.r,s1.c,s1.p,s1.o,s1.f]
    refine GM ?_
    try simp only [go_sem,s1.k,s1.r,s1.c,s1.p,s1.o,s1.f]
    refine AB h (fun h=>?_) (fun h=>?_)
    ·try simp only [go_sem,s1.k,s1.r,s1.c,s1.p,s1.o,s1.f]
     cases h
     simp only [go_sem,s1.k,s1.r,s1.c,s1.p,s1.o,s1.f]
    ·try simp only [go_sem,s1.k,s1.r,s1.c,s1.p,s1.o,s1.f]
     refine GM ?_
     try simp only [go_sem,s1.k,s1.r,s1.c,s1.p,s1.o,s1.f]
     refine WT (DN rfl rfl (ih0 a0 (IntKind.i64.wrap (u+1)) f1 g1 c1 s1 h1 _ h):) (.one ⟨_,.done _,[],[],?_⟩)
     try simp only [go_sem,s1.k,s1.r,s1.c,s1.p,s1.o,s1.f]
   ·try simp only [go_sem,s1.k,s1.r,s1.c,s1.p,s1.o,s1.f]
    refine GM ?_
    try simp only [go_sem,s1.k,s1.r,s1.c,s1.p,s1.o,s1.f]
    cases h
    simp only [go_sem,s1.k,s1.r,s1.c,s1.p,s1.o,s1.f]
theorem KR (a0:List Net) (f1:(Net→Option Bool)) (g1:FuncId) (c1:List AV) (s1:Still c1) (h1:∀ (y0:Net) (q:Bool),f1 y0=some q→AC Tryz.prog g1 (fnA c1 [.agg (Net.avs y0)]) (.bool q)) (r:Int) (h:D1 a0 f1=some r):AC Tryz.prog 103 [.ro (a0.map Net.ds),.fn g1 c1] (.int .i64 r):=by
 unfold D1 at h
 refine acF Tryz.func103 mixed (h:=?_)
 try simp only [go_sem,s1.k,s1.r,s1.c,s1.p,s1.o,s1.f]
 refine D0 (DN rfl rfl (Iu fuel a0 0 f1 g1 c1 s1 h1 _ h):) (.one ⟨_,.done _,[],[],?_⟩)
 try simp only [go_sem,s1.k,s1.r,s1.c,s1.p,s1.o,s1.f]
theorem Iv (a0:List Net) (f1:(Net→Option Bool)) (g1:FuncId) (c1:List AV) (s1:Still c1) (h1:∀ (y0:Net) (q:Bool),f1 y0=some q→AC Tryz.prog g1 (fnA c1 [.agg (Net.avs y0)]) (.bool q)) (r:Bool) (h:CJ a0 f1=some r):AC Tryz.prog 62 [.ro (a0.map Net.ds),.fn g1 c1] (.bool r):=by
 unfold CJ at h
 refine acF Tryz.func62 mixed (h:=?_)
 try simp only [go_sem,s1.k,s1.r,s1.c,s1.p,s1.o,s1.f]
 replace h:=AD h; obtain⟨u,w,h⟩:=h
 refine AH (KR _ _ g1 c1 s1 h1 _ w) ?_
 try simp only [go_sem,s1.k,s1.r,s1.c,s1.p,s1.o,s1.f]
 refine GM ?_
 try simp only [go_sem,s1.k,s1.r,s1.c,s1.p,s1.o,s1.f]
 cases h
 simp only [go_sem,s1.k,s1.r,s1.c,s1.p,s1.o,s1.f]
theorem L4 (a0 r) (h:FD a0=some r):AC Tryz.prog 63 [.agg (Net.avs a0)] (.bool r):=by
 unfold FD at h
 refine acF Tryz.func63 mixed (h:=Z ?_)
 replace h:=AD h; obtain⟨u,w,h⟩:=h
 refine AH (KJ _ _ w) (Z ?_)
 refine AF ?_
 cases h
 simp only [go_sem]
theorem Nj (a0 r) (h:Ee a0=some r):AC Tryz.prog 27 [.ro (a0.map Net.ds)] (.bool r):=by
 unfold Ee at h
 refine acF Tryz.func27 mixed (h:=Z ?_)
 refine AB h (fun h=>Z ?_) (fun h=>Z ?_)
 ·replace h:=AD h; obtain⟨u,w,h⟩:=h
  refine AH (Iv _ _ 63 [] (Still.of rfl) (fun y0 q hq=>L4 y0  q hq) _ w) (Z ?_)
  refine AF ?_
  cases h
  simp only [go_sem]
 ·refine AF ?_
  cases h
  simp only [go_sem]
theorem RG (n:Nat):(∀a0 u r,FE n a0 u=some r→Af Tryz.prog Tryz.f19 [1,1,0,1,0] (.bool r) ⟨[(0,.ro (a0.map Net.ds)),(3,.int .i64 u)],[],[]⟩):=by
 induction n with
 |zero=>exact((fun _ _ _ h=>by rw [FE] at h; cases h))
 | succ n ih=>
  have ih0:=ih
  ·intro a0 u r h
   rw [FE] at h
   refine AN rfl rfl (Z ?_)
   refine AY (Z ?_)
   refine AB h (fun h=>Z ?_) (fun h=>Z ?_)
   ·refine AF ?_
    replace h:=AD h; obtain⟨w,y,h⟩:=h
    refine AL y (Net.ds_len _) (Z ?_)
    replace h:=AD h; obtain⟨q,g,h⟩:=h
    refine AH (Oa _ _ g) (Z ?_)
    refine AF ?_
    refine AB h (fun h=>Z ?_) (fun h=>Z ?_)
    ·cases h
     simp only [go_sem]
    ·refine AF ?_
     exact lpF (ih0 a0 (IntKind.i64.wrap (u+1)) _ h) [] []
   ·refine AF ?_
    cases h
    simp only [go_sem]
theorem VW (a0 r) (h:Km a0=some r):AC Tryz.prog 19 [.ro (a0.map Net.ds)] (.bool r):=by
 unfold Km at h
 refine acF Tryz.func19 mixed (h:=Z ?_)
 refine AB h (fun h=>Z ?_) (fun h=>Z ?_)
 ·cases h
  simp only [go_sem]
 ·refine AF ?_
  exact loF (RG fuel a0 0 _ h) [] []
end Go.Proofs.YteckcjgpnegkjaaGreat.Ab
