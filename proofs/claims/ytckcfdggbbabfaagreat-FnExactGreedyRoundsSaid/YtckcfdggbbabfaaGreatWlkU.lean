/-
 The functions do what their models say. Printed by wip/ab/gen.py.
-/
import Derived.Test.YtckcfdggbbabfaaGreatModU
import Derived.Test.YtckcfdggbbabfaaGreatTi2
import Derived.Test.YtckcfdggbbabfaaGreatWlk
namespace Go.Proofs.YtckcfdggbbabfaaGreat.Ab
set_option linter.unusedVariables false
set_option linter.unusedSimpArgs false
set_option maxRecDepth 20000
set_option maxHeartbeats 4000000
open Go.RowKit
theorem SX (a0 a1 r) (h:I6 a0 a1=some r):AC Tryz.prog 175 [.ro (List.map Port.ds a0),.int .i64 a1] (.int .i64 r):=by
 unfold I6 at h
 refine acF Tryz.func175 mixed (h:=Z ?_)
 refine AB h (fun h=>Z ?_) (fun h=>Z ?_)
 ·cases h
  simp only [go_sem]
 ·refine AF ?_
  cases h
  simp only [go_sem]
theorem SY (a0 a1 r) (h:Hf a0 a1=some r):AC Tryz.prog 104 [.agg (Agent.avs a0),.int .i64 a1] (.int .i64 r):=by
 unfold Hf at h
 refine acF Tryz.func104 mixed (h:=Z ?_)
 replace h:=AD h; obtain⟨u,w,h⟩:=h
 refine AI (Qg _ _ _ w) (Z ?_)
 refine AF ?_
 refine AB h (fun h=>Z ?_) (fun h=>Z ?_)
 ·cases h
  simp only [go_sem]
 ·refine AF ?_
  replace h:=AD h; obtain⟨y,q,h⟩:=h
  refine AI (SX _ _ _ q) (Z ?_)
  refine AF ?_
  refine AB h (fun h=>Z ?_) (fun h=>Z ?_)
  ·cases h
   simp only [go_sem]
  ·refine AF ?_
   cases h
   simp only [go_sem]
theorem Nw (n:Nat):(∀a0 u w r,Dm n a0 u w=some r→Aw Tryz.prog Tryz.f56 [1,1,1,0,1,0] (.int .i64 r) ⟨[(0,.ro (List.map Agent.ds a0)),(1,.int .i64 u),(5,.int .i64 w)],[],[]⟩):=by
 induction n with
 |zero=>exact((fun _ _ _ _ h=>by rw [Dm] at h; cases h))
 | succ n ih=>
  have ih0:=ih
  ·intro a0 u w r h
   rw [Dm] at h
   refine AN rfl rfl (Z ?_)
   refine Ad (Z ?_)
   refine AB h (fun h=>Z ?_) (fun h=>Z ?_)
   ·refine AF ?_
    replace h:=AD h; obtain⟨y,q,h⟩:=h
    refine AM q (Agent.ds_len _) (Z ?_)
    replace h:=AD h; obtain⟨g,j,h⟩:=h
    refine AI (SY _ _ _ j) (Z ?_)
    refine AF ?_
    refine AB h (fun h=>Z ?_) (fun h=>Z ?_)
    ·cases h
     simp only [go_sem]
    ·refine AF ?_
     exact lpF (ih0 a0 g (IntKind.i64.wrap (w+1)) _ h) [] []
   ·refine AF ?_
    cases h
    simp only [go_sem]
theorem Qm (a0 a1 r) (h:H1 a0 a1=some r):AC Tryz.prog 56 [.ro (List.map Agent.ds a0),.int .i64 a1] (.int .i64 r):=by
 unfold H1 at h
 refine acF Tryz.func56 mixed (h:=Z ?_)
 refine AB h (fun h=>Z ?_) (fun h=>Z ?_)
 ·cases h
  simp only [go_sem]
 ·refine AF ?_
  exact loF (Nw fuel a0 (IntKind.i64.wrap (a1 - ((List.length a0:Nat):Int))) 0 _ h) [] []
theorem QI (a0 a1 r) (h:Jk a0 a1=some r):AC Tryz.prog 14 [.agg (Net.avs a0),.int .i64 a1] (.int .i64 r):=by
 unfold Jk at h
 refine acF Tryz.func14 mixed (h:=Z ?_)
 replace h:=AD h; obtain⟨u,w,h⟩:=h
 refine AI (Qm _ _ _ w) (Z ?_)
 refine AF ?_
 refine AB h (fun h=>Z ?_) (fun h=>Z ?_)
 ·cases h
  simp only [go_sem]
 ·refine AF ?_
  cases h
  simp only [go_sem]
theorem QJ (n:Nat):(∀a0 u w r,Er n a0 u w=some r→Aw Tryz.prog Tryz.f13 [1,1,1,0,1,0] (.int .i64 r) ⟨[(0,.ro (List.map Net.ds a0)),(1,.int .i64 u),(5,.int .i64 w)],[],[]⟩):=by
 induction n with
 |zero=>exact((fun _ _ _ _ h=>by rw [Er] at h; cases h))
 | succ n ih=>
  have ih0:=ih
  ·intro a0 u w r h
   rw [Er] at h
   refine AN rfl rfl (Z ?_)
   refine Ad (Z ?_)
   refine AB h (fun h=>Z ?_) (fun h=>Z ?_)
   ·refine AF ?_
    replace h:=AD h; obtain⟨y,q,h⟩:=h
    refine AM q (Net.ds_len _) (Z ?_)
    replace h:=AD h; obtain⟨g,j,h⟩:=h
    refine AI (QI _ _ _ j) (Z ?_)
    refine AF ?_
    refine AB h (fun h=>Z ?_) (fun h=>Z ?_)
    ·cases h
     simp only [go_sem]
    ·refine AF ?_
     exact lpF (ih0 a0 g (IntKind.i64.wrap (w+1)) _ h) [] []
   ·refine AF ?_
    cases h
    simp only [go_sem]
theorem UM (a0 a1 r) (h:Kp a0 a1=some r):AC Tryz.prog 13 [.ro (List.map Net.ds a0),.int .i64 a1] (.int .i64 r):=by
 unfold Kp at h
 refine acF Tryz.func13 mixed (h:=Z ?_)
 refine AB h (fun h=>Z ?_) (fun h=>Z ?_)
 ·cases h
  simp only [go_sem]
 ·refine AF ?_
  exact loF (QJ fuel a0 (IntKind.i64.wrap (a1 - ((List.length a0:Nat):Int))) 0 _ h) [] []
theorem UN (a0 r) (h:I7 a0=some r):AC Tryz.prog 218 [.agg (Port.avs a0)] (.agg (Port.rv r)):=by
 unfold I7 at h
 refine acF Tryz.func218 mixed (h:=Z ?_)
 refine AF ?_
 refine AF ?_
 cases h
 simp only [go_sem]
theorem Ob (n:Nat):(∀a0 u w r,EB n a0 u w=some r→Aw Tryz.prog Tryz.f180 [1,1,0,1,0] (.ow (some 2) (List.map Port.ds r)) ⟨[(0,.ro (List.map Port.ds a0)),(3,.own 1000001000),(4,.int .i64 w)],[(1000001000,some ⟨List.map Port.ds u,some 2,0,false⟩)],[]⟩):=by
 induction n with
 |zero=>exact((fun _ _ _ _ h=>by rw [EB] at h; cases h))
 | succ n ih=>
  have ih0:=ih
  ·intro a0 u w r h
   rw [EB] at h
   refine AN rfl rfl (Z ?_)
   refine Ad (Z ?_)
   refine AB h (fun h=>Z ?_) (fun h=>Z ?_)
   ·refine AF ?_
    replace h:=AD h; obtain⟨y,q,h⟩:=h
    refine AM q (Port.ds_len _) (Z ?_)
    replace h:=AD h; obtain⟨g,j,h⟩:=h
    refine AI (UN _ _ j) (Z ?_)
    replace h:=AD h; obtain⟨k,b,h⟩:=h
    refine AM b (Port.ds_len _) (Z ?_)
    replace h:=AD h; obtain⟨d,c,h⟩:=h
    refine Ai (AW b) (Z ?_)
    refine BP (List.map Port.ds d) (by rw [← Bo c]; simp only [List.map_set,go_sem,Port.ds_eq]) (Z ?_)
    refine AF ?_
    exact lpF (ih0 a0 d (IntKind.i64.wrap (w+1)) _ h) [(1000001000,1000001000)] []
   ·refine AF ?_
    cases h
    simp only [go_sem]
theorem SZ (a0 r) (h:I8 a0=some r):AC Tryz.prog 180 [.ro (List.map Port.ds a0)] (.ow (some 2) (List.map Port.ds r)):=by
 unfold I8 at h
 refine acF Tryz.func180 mixed (h:=Z ?_)
 replace h:=AD h; obtain⟨u,w,h⟩:=h
 have hq_:=Gs w
 obtain⟨hv2002a,hv2002b,hv2002c⟩:=hq_
 refine BO (by refine⟨?_,?_,?_⟩ <;> omega) (Z ?_)
 refine BP (List.map Port.ds u) (by rw [← hv2002c]; simp only [List.map_replicate,go_sem,Port.ds_eq]) (Z ?_)
 refine AF ?_
 exact loF (Ob fuel a0 u 0 _ h) [(1000001000,32032)] []
theorem Sa (a0 r) (h:Hg a0=some r):AC Tryz.prog 110 [.agg (Agent.avs a0)] (.agg (Agent.rv r)):=by
 unfold Hg at h
 refine acF Tryz.func110 mixed (h:=Z ?_)
 refine AF ?_
 refine AF ?_
 replace h:=AD h; obtain⟨u,w,h⟩:=h
 refine AI (Qh _ _ w) (Z ?_)
 refine AF ?_
 replace h:=AD h; obtain⟨y,q,h⟩:=h
 refine AI (SZ _ _ q) (Z ?_)
 refine AF ?_
 cases h
 simp only [go_sem]
theorem Nx (n:Nat):(∀a0 u w r,Dn n a0 u w=some r→Aw Tryz.prog Tryz.f63 [1,1,0,1,0] (.ow (some 5) (List.map Agent.ds r)) ⟨[(0,.ro (List.map Agent.ds a0)),(3,.own 1000001000),(4,.int .i64 w)],[(1000001000,some ⟨List.map Agent.ds u,some 5,0,false⟩)],[]⟩):=by
 induction n with
 |zero=>exact((fun _ _ _ _ h=>by rw [Dn] at h; cases h))
 | succ n ih=>
  have ih0:=ih
  ·intro a0 u w r h
   rw [Dn] at h
   refine AN rfl rfl (Z ?_)
   refine Ad (Z ?_)
   refine AB h (fun h=>Z ?_) (fun h=>Z ?_)
   ·refine AF ?_
    replace h:=AD h; obtain⟨y,q,h⟩:=h
    refine AM q (Agent.ds_len _) (Z ?_)
    replace h:=AD h; obtain⟨g,j,h⟩:=h
    refine AI (Sa _ _ j) (Z ?_)
    replace h:=AD h; obtain⟨k,b,h⟩:=h
    refine AM b (Agent.ds_len _) (Z ?_)
    replace h:=AD h; obtain⟨d,c,h⟩:=h
    refine Ai (AW b) (Z ?_)
    refine BP (List.map Agent.ds d) (by rw [← Bo c]; simp only [List.map_set,go_sem,Agent.ds_eq]) (Z ?_)
    refine AF ?_
    exact lpF (ih0 a0 d (IntKind.i64.wrap (w+1)) _ h) [(1000001000,1000001000)] []
   ·refine AF ?_
    cases h
    simp only [go_sem]
theorem Qn (a0 r) (h:H2 a0=some r):AC Tryz.prog 63 [.ro (List.map Agent.ds a0)] (.ow (some 5) (List.map Agent.ds r)):=by
 unfold H2 at h
 refine acF Tryz.func63 mixed (h:=Z ?_)
 replace h:=AD h; obtain⟨u,w,h⟩:=h
 have hq_:=Gs w
 obtain⟨hv2002a,hv2002b,hv2002c⟩:=hq_
 refine BO (by refine⟨?_,?_,?_⟩ <;> omega) (Z ?_)
 refine BP (List.map Agent.ds u) (by rw [← hv2002c]; simp only [List.map_replicate,go_sem,Agent.ds_eq]) (Z ?_)
 refine AF ?_
 exact loF (Nx fuel a0 u 0 _ h) [(1000001000,32032)] []
theorem Jy (a0 r) (h:Gg a0=some r):AC Tryz.prog 18 [.agg (Net.avs a0)] (.agg (Net.rv r)):=by
 unfold Gg at h
 refine acF Tryz.func18 mixed (h:=Z ?_)
 refine AF ?_
 refine AF ?_
 replace h:=AD h; obtain⟨u,w,h⟩:=h
 refine AI (Qn _ _ w) (Z ?_)
 refine AF ?_
 cases h
 simp only [go_sem]
theorem QK (n:Nat):(∀a0 u w r,Es n a0 u w=some r→Aw Tryz.prog Tryz.f17 [1,1,0,1,0] (.ow (some 1) (List.map Net.ds r)) ⟨[(0,.ro (List.map Net.ds a0)),(3,.own 1000001000),(4,.int .i64 w)],[(1000001000,some ⟨List.map Net.ds u,some 1,0,false⟩)],[]⟩):=by
 induction n with
 |zero=>exact((fun _ _ _ _ h=>by rw [Es] at h; cases h))
 | succ n ih=>
  have ih0:=ih
  ·intro a0 u w r h
   rw [Es] at h
   refine AN rfl rfl (Z ?_)
   refine Ad (Z ?_)
   refine AB h (fun h=>Z ?_) (fun h=>Z ?_)
   ·refine AF ?_
    replace h:=AD h; obtain⟨y,q,h⟩:=h
    refine AM q (Net.ds_len _) (Z ?_)
    replace h:=AD h; obtain⟨g,j,h⟩:=h
    refine AI (Jy _ _ j) (Z ?_)
    replace h:=AD h; obtain⟨k,b,h⟩:=h
    refine AM b (Net.ds_len _) (Z ?_)
    replace h:=AD h; obtain⟨d,c,h⟩:=h
    refine Ai (AW b) (Z ?_)
    refine BP (List.map Net.ds d) (by rw [← Bo c]; simp only [List.map_set,go_sem,Net.ds_eq]) (Z ?_)
    refine AF ?_
    exact lpF (ih0 a0 d (IntKind.i64.wrap (w+1)) _ h) [(1000001000,1000001000)] []
   ·refine AF ?_
    cases h
    simp only [go_sem]
theorem LG (a0 r) (h:G2 a0=some r):AC Tryz.prog 17 [.ro (List.map Net.ds a0)] (.ow (some 1) (List.map Net.ds r)):=by
 unfold G2 at h
 refine acF Tryz.func17 mixed (h:=Z ?_)
 replace h:=AD h; obtain⟨u,w,h⟩:=h
 have hq_:=Gs w
 obtain⟨hv2002a,hv2002b,hv2002c⟩:=hq_
 refine BO (by refine⟨?_,?_,?_⟩ <;> omega) (Z ?_)
 refine BP (List.map Net.ds u) (by rw [← hv2002c]; simp only [List.map_replicate,go_sem,Net.ds_eq]) (Z ?_)
 refine AF ?_
 exact loF (QK fuel a0 u 0 _ h) [(1000001000,32032)] []
theorem UO (a0 a1 r) (h:I9 a0 a1=some r):AC Tryz.prog 222 [.agg (Port.avs a0),.agg (Port.avs a1)] (.bool r):=by
 unfold I9 at h
 refine acF Tryz.func222 mixed (h:=Z ?_)
 refine AB h (fun h=>Z ?_) (fun h=>Z ?_)
 ·cases h
  simp only [go_sem]
 ·refine AF ?_
  refine AB h (fun h=>Z ?_) (fun h=>Z ?_)
  ·cases h
   simp only [go_sem]
  ·refine AF ?_
   cases h
   simp only [go_sem]
theorem Oc (n:Nat):(∀a0 a1 u r,EC n a0 a1 u=some r→Aw Tryz.prog Tryz.f187 [1,1,0,1,0] (.bool r) ⟨[(0,.ro (List.map Port.ds a0)),(1,.ro (List.map Port.ds a1)),(5,.int .i64 u)],[],[]⟩):=by
 induction n with
 |zero=>exact((fun _ _ _ _ h=>by rw [EC] at h; cases h))
 | succ n ih=>
  have ih0:=ih
  ·intro a0 a1 u r h
   rw [EC] at h
   refine AN rfl rfl (Z ?_)
   refine Ad (Z ?_)
   refine AB h (fun h=>Z ?_) (fun h=>Z ?_)
   ·refine AF ?_
    refine AX [] .fin (by kernel_rfl) (Z ?_)
    replace h:=AD h; obtain⟨w,y,h⟩:=h
    refine AM y (Port.ds_len _) (Z ?_)
    replace h:=AD h; obtain⟨q,g,h⟩:=h
    refine AM g (Port.ds_len _) (Z ?_)
    replace h:=AD h; obtain⟨j,k,h⟩:=h
    refine AI (UO _ _ _ k) (Z ?_)
    refine AF ?_
    refine AB h (fun h=>Z ?_) (fun h=>Z ?_)
    ·cases h
     simp only [go_sem]
    ·refine AF ?_
     exact lpF (ih0 a0 a1 (IntKind.i64.wrap (u+1)) _ h) [] []
   ·refine AF ?_
    cases h
    simp only [go_sem]
theorem Sb (a0 a1 r) (h:JA a0 a1=some r):AC Tryz.prog 187 [.ro (List.map Port.ds a0),.ro (List.map Port.ds a1)] (.bool r):=by
 unfold JA at h
 refine acF Tryz.func187 mixed (h:=Z ?_)
 refine AB h (fun h=>Z ?_) (fun h=>Z ?_)
 ·cases h
  simp only [go_sem]
 ·refine AF ?_
  exact loF (Oc fuel a0 a1 0 _ h) [] []
theorem Sc (a0 a1 r) (h:Hh a0 a1=some r):AC Tryz.prog 119 [.agg (Agent.avs a0),.agg (Agent.avs a1)] (.bool r):=by
 unfold Hh at h
 refine acF Tryz.func119 mixed (h:=Z ?_)
 refine AB h (fun h=>Z ?_) (fun h=>Z ?_)
 ·cases h
  simp only [go_sem]
 ·refine AF ?_
  refine AB h (fun h=>Z ?_) (fun h=>Z ?_)
  ·cases h
   simp only [go_sem]
  ·refine AF ?_
   refine AB h (fun h=>Z ?_) (fun h=>Z ?_)
   ·cases h
    simp only [go_sem]
   ·refine AF ?_
    replace h:=AD h; obtain⟨u,w,h⟩:=h
    refine AI (Qi _ _ _ w) (Z ?_)
    refine AF ?_
    refine AB h (fun h=>Z ?_) (fun h=>Z ?_)
    ·cases h
     simp only [go_sem]
    ·refine AF ?_
     replace h:=AD h; obtain⟨y,q,h⟩:=h
     refine AI (Sb _ _ _ q) (Z ?_)
     refine AF ?_
     refine AB h (fun h=>Z ?_) (fun h=>Z ?_)
     ·cases h
      simp only [go_sem]
     ·refine AF ?_
      cases h
      simp only [go_sem]
theorem Ny (n:Nat):(∀a0 a1 u r,Do n a0 a1 u=some r→Aw Tryz.prog Tryz.f69 [1,1,0,1,0] (.bool r) ⟨[(0,.ro (List.map Agent.ds a0)),(1,.ro (List.map Agent.ds a1)),(5,.int .i64 u)],[],[]⟩):=by
 induction n with
 |zero=>exact((fun _ _ _ _ h=>by rw [Do] at h; cases h))
 | succ n ih=>
  have ih0:=ih
  ·intro a0 a1 u r h
   rw [Do] at h
   refine AN rfl rfl (Z ?_)
   refine Ad (Z ?_)
   refine AB h (fun h=>Z ?_) (fun h=>Z ?_)
   ·refine AF ?_
    refine AX [] .fin (by kernel_rfl) (Z ?_)
    replace h:=AD h; obtain⟨w,y,h⟩:=h
    refine AM y (Agent.ds_len _) (Z ?_)
    replace h:=AD h; obtain⟨q,g,h⟩:=h
    refine AM g (Agent.ds_len _) (Z ?_)
    replace h:=AD h; obtain⟨j,k,h⟩:=h
    refine AI (Sc _ _ _ k) (Z ?_)
    refine AF ?_
    refine AB h (fun h=>Z ?_) (fun h=>Z ?_)
    ·cases h
     simp only [go_sem]
    ·refine AF ?_
     exact lpF (ih0 a0 a1 (IntKind.i64.wrap (u+1)) _ h) [] []
   ·refine AF ?_
    cases h
    simp only [go_sem]
theorem Qo (a0 a1 r) (h:H3 a0 a1=some r):AC Tryz.prog 69 [.ro (List.map Agent.ds a0),.ro (List.map Agent.ds a1)] (.bool r):=by
 unfold H3 at h
 refine acF Tryz.func69 mixed (h:=Z ?_)
 refine AB h (fun h=>Z ?_) (fun h=>Z ?_)
 ·cases h
  simp only [go_sem]
 ·refine AF ?_
  exact loF (Ny fuel a0 a1 0 _ h) [] []
theorem QL (a0 a1 r) (h:IY a0 a1=some r):AC Tryz.prog 23 [.agg (Net.avs a0),.agg (Net.avs a1)] (.bool r):=by
 unfold IY at h
 refine acF Tryz.func23 mixed (h:=Z ?_)
 replace h:=AD h; obtain⟨u,w,h⟩:=h
 refine AI (Qo _ _ _ w) (Z ?_)
 refine AF ?_
 refine AB h (fun h=>Z ?_) (fun h=>Z ?_)
 ·cases h
  simp only [go_sem]
 ·refine AF ?_
  cases h
  simp only [go_sem]
theorem QM (n:Nat):(∀a0 a1 u r,Et n a0 a1 u=some r→Aw Tryz.prog Tryz.f22 [1,1,0,1,0] (.bool r) ⟨[(0,.ro (List.map Net.ds a0)),(1,.ro (List.map Net.ds a1)),(5,.int .i64 u)],[],[]⟩):=by
 induction n with
 |zero=>exact((fun _ _ _ _ h=>by rw [Et] at h; cases h))
 | succ n ih=>
  have ih0:=ih
  ·intro a0 a1 u r h
   rw [Et] at h
   refine AN rfl rfl (Z ?_)
   refine Ad (Z ?_)
   refine AB h (fun h=>Z ?_) (fun h=>Z ?_)
   ·refine AF ?_
    refine AX [] .fin (by kernel_rfl) (Z ?_)
    replace h:=AD h; obtain⟨w,y,h⟩:=h
    refine AM y (Net.ds_len _) (Z ?_)
    replace h:=AD h; obtain⟨q,g,h⟩:=h
    refine AM g (Net.ds_len _) (Z ?_)
    replace h:=AD h; obtain⟨j,k,h⟩:=h
    refine AI (QL _ _ _ k) (Z ?_)
    refine AF ?_
    refine AB h (fun h=>Z ?_) (fun h=>Z ?_)
    ·cases h
     simp only [go_sem]
    ·refine AF ?_
     exact lpF (ih0 a0 a1 (IntKind.i64.wrap (u+1)) _ h) [] []
   ·refine AF ?_
    cases h
    simp only [go_sem]
theorem UP (a0 a1 r) (h:JB a0 a1=some r):AC Tryz.prog 22 [.ro (List.map Net.ds a0),.ro (List.map Net.ds a1)] (.bool r):=by
 unfold JB at h
 refine acF Tryz.func22 mixed (h:=Z ?_)
 refine AB h (fun h=>Z ?_) (fun h=>Z ?_)
 ·cases h
  simp only [go_sem]
 ·refine AF ?_
  exact loF (QM fuel a0 a1 0 _ h) [] []
theorem LA (a0 r) (h:Gz a0=some r):AC Tryz.prog 108 [.ro (List.map AY a0)] (.ow (some 1) (List.map AY r)):=by
 unfold Gz at h
 refine acF Tryz.func108 mixed (h:=Z ?_)
 replace h:=AD h; obtain⟨u,w,h⟩:=h
 have hq_:=BH w
 obtain⟨hv2002a,hv2002b⟩:=hq_
 refine Dt false (Z ?_)
 refine BO (Fx (by intro x; exact⟨rfl,by simp [go_sem,D.flat]⟩) _) (Z ?_)
 refine BO (by refine⟨?_,?_⟩ <;> (try simp only [List.length_map,List.length_append,List.length_cons,List.length_nil] at*) <;> (try unfold maxLen) <;> omega) (Z ?_)
 refine BP (List.map AY u) (by rw [← hv2002b]; simp only [List.map_append,List.map_cons,List.map_nil,List.nil_append,List.append_nil,go_sem,slD]) (Z ?_)
 refine AF ?_
 cases h
 simp only [go_sem]
theorem C8 (a0 r) (h:s_l11OwnAgent a0=some r):AC Tryz.prog 122 [.rop (Agent.avs a0) 0] (.agg (Agent.rv r)):=by
 unfold s_l11OwnAgent at h
 refine acF Tryz.func122 mixed (h:=Z ?_)
 refine AF ?_
 refine AX [false,false,false,false,false,false,false,false,false,false,false,false,false,false,false,false,false,false,false,false,false,false,false,false,true] (Tr.sq [24] .fin) (by kernel_rfl) (Z ?_)
 replace h:=AD h; obtain⟨u,w,h⟩:=h
 refine AI (LA _ _ w) (Z ?_)
 replace h:=AD h; obtain⟨y,q,h⟩:=h
 have hq_:=BH q
 obtain⟨hv2022a,hv2022b⟩:=hq_
 refine BO (by rfl) (Z ?_)
 refine Dt false (Z ?_)
 refine BO (Fx (by intro x; exact⟨(Port.ds_len _),by simp [Port.ds_eq,D.flat]⟩) _) (Z ?_)
 refine BO (by refine⟨?_,?_⟩ <;> (try simp only [List.length_map,List.length_append,List.length_cons,List.length_nil] at*) <;> (try unfold maxLen) <;> omega) (Z ?_)
 refine BP (List.map Port.ds y) (by rw [← hv2022b]; simp only [List.nil_append]) (Z ?_)
 refine AF ?_
 cases h
 simp only [go_sem]
theorem Iq (n:Nat):(∀ (a0:List Int) (u:Int) (f1:(Int→Option Bool)) (g1:FuncId) (c1:List AV) (s1:Still c1) (h1:∀ (y0:Int) (q:Bool),f1 y0=some q→AC Tryz.prog g1 (.int .i64 y0::c1) (.bool q)) (r:Int),BV n a0 u f1=some r→Aw Tryz.prog Tryz.f219 [1,0,1,0] (.int .i64 r) ⟨[(0,.ro (List.map AY a0)),(1,.fn g1 c1),(7,.int .i64 ((List.length a0:Nat):Int)),(8,.int .i64 u)],[],[]⟩):=by
 induction n with
 |zero=>exact((fun _ _ _ _ _ _ _ _ h=>by rw [BV] at h; cases h))
 | succ n ih=>
  have ih0:=ih
  ·intro a0 u f1 g1 c1 s1 h1 r h
   rw [BV] at h
   refine AN rfl rfl ?_
   try simp only [go_sem,s1.k,s1.r,s1.c,s1.p]
   refine Ad ?_
   try simp only [go_sem,s1.k,s1.r,s1.c,s1.p]
   refine AB h (fun h=>?_) (fun h=>?_)
   ·try simp only [go_sem,s1.k,s1.r,s1.c,s1.p]
    refine FD ?_
    try simp only [go_sem,s1.k,s1.r,s1.c,s1.p]
    replace h:=AD h; obtain⟨w,y,h⟩:=h
    refine AM y rfl ?_
    try simp only [go_sem,s1.k,s1.r,s1.c,s1.p]
    replace h:=AD h; obtain⟨g,j,h⟩:=h
    refine AI (h1 _ _ j) ?_
    try simp only [go_sem,s1.k,s1.r,s1.c,s1.p]
    refine FD ?_
    try simp only [go_sem,s1.k,s1.r,s1.c,s1.p]
    refine AB h (fun h=>?_) (fun h=>?_)
    ·try simp only [go_sem,s1.k,s1.r,s1.c,s1.p]
     cases h
     simp only [go_sem,s1.k,s1.r,s1.c,s1.p]
    ·try simp only [go_sem,s1.k,s1.r,s1.c,s1.p]
     refine FD ?_
     try simp only [go_sem,s1.k,s1.r,s1.c,s1.p]
     refine RP (D8 rfl rfl (ih0 a0 (IntKind.i64.wrap (u+1)) f1 g1 c1 s1 h1 _ h):) (.one ⟨_,.done _,[],[],?_⟩)
     try simp only [go_sem,s1.k,s1.r,s1.c,s1.p]
   ·try simp only [go_sem,s1.k,s1.r,s1.c,s1.p]
    refine FD ?_
    try simp only [go_sem,s1.k,s1.r,s1.c,s1.p]
    cases h
    simp only [go_sem,s1.k,s1.r,s1.c,s1.p]
theorem KE (a0:List Int) (f1:(Int→Option Bool)) (g1:FuncId) (c1:List AV) (s1:Still c1) (h1:∀ (y0:Int) (q:Bool),f1 y0=some q→AC Tryz.prog g1 (.int .i64 y0::c1) (.bool q)) (r:Int) (h:ED a0 f1=some r):AC Tryz.prog 219 [.ro (List.map AY a0),.fn g1 c1] (.int .i64 r):=by
 unfold ED at h
 refine acF Tryz.func219 mixed (h:=?_)
 try simp only [go_sem,s1.k,s1.r,s1.c,s1.p]
 refine DT (D8 rfl rfl (Iq fuel a0 0 f1 g1 c1 s1 h1 _ h):) (.one ⟨_,.done _,[],[],?_⟩)
 try simp only [go_sem,s1.k,s1.r,s1.c,s1.p]
theorem FO (a0:List Int) (f1:(Int→Option Bool)) (g1:FuncId) (c1:List AV) (s1:Still c1) (h1:∀ (y0:Int) (q:Bool),f1 y0=some q→AC Tryz.prog g1 (.int .i64 y0::c1) (.bool q)) (r:Bool) (h:BU a0 f1=some r):AC Tryz.prog 181 [.ro (List.map AY a0),.fn g1 c1] (.bool r):=by
 unfold BU at h
 refine acF Tryz.func181 mixed (h:=?_)
 try simp only [go_sem,s1.k,s1.r,s1.c,s1.p]
 replace h:=AD h; obtain⟨u,w,h⟩:=h
 refine AI (KE _ _ g1 c1 s1 h1 _ w) ?_
 try simp only [go_sem,s1.k,s1.r,s1.c,s1.p]
 refine FD ?_
 try simp only [go_sem,s1.k,s1.r,s1.c,s1.p]
 cases h
 simp only [go_sem,s1.k,s1.r,s1.c,s1.p]
theorem LH (a0 r) (h:H4 a0=some r):AC Tryz.prog 241 [.int .i64 a0] (.bool r):=by
 unfold H4 at h
 refine acF Tryz.func241 mixed (h:=Z ?_)
 refine AB h (fun h=>Z ?_) (fun h=>Z ?_)
 ·refine AF ?_
  cases h
  simp only [go_sem]
 ·refine AF ?_
  cases h
  simp only [go_sem]
theorem HC (a0:Int) (u:Bool) (r:Int) (h:DZ a0 u=some r):Aw Tryz.prog Tryz.f231 [1,0,0,1,1,1] (.int .i64 r) ⟨[(0,.int .i64 a0),(18,.bool u)],[],[]⟩:=by
 unfold DZ at h
 refine AN rfl rfl (Z ?_)
 refine AB h (fun h=>Z ?_) (fun h=>Z ?_)
 ·cases h
  simp only [go_sem]
 ·refine AF ?_
  replace h:=AD h; obtain⟨w,y,h⟩:=h
  refine Ai y (Z ?_)
  cases h
  simp only [go_sem]
theorem HD (a0:Int) (a1:Int) (u:Bool) (r:Int) (h:Ct a0 a1 u=some r):Aw Tryz.prog Tryz.f231 [1,0,0,1] (.int .i64 r) ⟨[(0,.int .i64 a0),(1,.int .i64 a1),(5,.bool u)],[],[]⟩:=by
 unfold Ct at h
 refine AN rfl rfl (Z ?_)
 refine AB h (fun h=>Z ?_) (fun h=>Z ?_)
 ·cases h
  simp only [go_sem]
 ·replace h:=AD h; obtain⟨w,y,h⟩:=h
  refine AI (LH _ _ y) (Z ?_)
  refine AB h (fun h=>Z ?_) (fun h=>Z ?_)
  ·exact AT (HC a0 true _ h) [] []
  ·refine AB h (fun h=>Z ?_) (fun h=>Z ?_)
   ·exact AT (HC a0 true _ h) [] []
   ·exact AT (HC a0 (!decide (a1=0)) _ h) [] []
theorem Sd (a0 a1 r) (h:Fk a0 a1=some r):AC Tryz.prog 231 [.int .i64 a0,.int .i64 a1] (.int .i64 r):=by
 unfold Fk at h
 refine acF Tryz.func231 mixed (h:=Z ?_)
 refine AB h (fun h=>Z ?_) (fun h=>Z ?_)
 ·refine AB h (fun h=>Z ?_) (fun h=>Z ?_)
  ·exact AT (HD a0 a1 (decide (a1≤3)) _ h) [] []
  ·exact AT (HD a0 a1 false _ h) [] []
 ·exact AT (HD a0 a1 false _ h) [] []
theorem Qp (a0 a1 r) (h:H5 a0 a1=some r):AC Tryz.prog 232 [.int .i64 a0,.int .i64 a1] (.int .i64 r):=by
 unfold H5 at h
 refine acF Tryz.func232 mixed (h:=Z ?_)
 refine AB h (fun h=>Z ?_) (fun h=>Z ?_)
 ·cases h
  simp only [go_sem]
 ·refine AF ?_
  cases h
  simp only [go_sem]
theorem Im (a0 r) (h:Dg a0=some r):AC Tryz.prog 211 [.int .i64 a0] (.bool r):=by
 unfold Dg at h
 refine acF Tryz.func211 mixed (h:=Z ?_)
 replace h:=AD h; obtain⟨u,w,h⟩:=h
 refine AI (LH _ _ w) (Z ?_)
 refine AB h (fun h=>Z ?_) (fun h=>Z ?_)
 ·refine AB h (fun h=>Z ?_) (fun h=>Z ?_)
  ·refine AB h (fun h=>Z ?_) (fun h=>Z ?_)
   ·refine AF ?_
    cases h
    simp only [go_sem]
   ·refine AF ?_
    cases h
    simp only [go_sem]
  ·refine AF ?_
   cases h
   simp only [go_sem]
 ·refine AF ?_
  cases h
  simp only [go_sem]
theorem M5 (a0 r) (h:Fg a0=some r):AC Tryz.prog 247 [.int .i64 a0] (.bool r):=by
 unfold Fg at h
 refine acF Tryz.func247 mixed (h:=Z ?_)
 refine AB h (fun h=>Z ?_) (fun h=>Z ?_)
 ·refine AF ?_
  cases h
  simp only [go_sem]
 ·refine AF ?_
  cases h
  simp only [go_sem]
theorem GE (a0 a1 r) (h:Cz a0 a1=some r):AC Tryz.prog 233 [.int .i64 a0,.int .i64 a1] (.bool r):=by
 unfold Cz at h
 refine acF Tryz.func233 mixed (h:=Z ?_)
 replace h:=AD h; obtain⟨u,w,h⟩:=h
 refine AI (LH _ _ w) (Z ?_)
 refine AB h (fun h=>Z ?_) (fun h=>Z ?_)
 ·refine AB h (fun h=>Z ?_) (fun h=>Z ?_)
  ·refine AF ?_
   cases h
   simp only [go_sem]
  ·replace h:=AD h; obtain⟨y,q,h⟩:=h
   refine AI (Im _ _ q) (Z ?_)
   refine AB h (fun h=>Z ?_) (fun h=>Z ?_)
   ·replace h:=AD h; obtain⟨g,j,h⟩:=h
    refine AI (M5 _ _ j) (Z ?_)
    refine AF ?_
    cases h
    simp only [go_sem]
   ·refine AF ?_
    cases h
    simp only [go_sem]
 ·refine AF ?_
  cases h
  simp only [go_sem]
theorem J8 (a0 r) (h:E4 a0=some r):AC Tryz.prog 235 [.int .i64 a0] (.bool r):=by
 unfold E4 at h
 refine acF Tryz.func235 mixed (h:=Z ?_)
 refine AB h (fun h=>Z ?_) (fun h=>Z ?_)
 ·refine AF ?_
  cases h
  simp only [go_sem]
 ·refine AF ?_
  cases h
  simp only [go_sem]
theorem NM (a0 r) (h:Eu a0=some r):AC Tryz.prog 234 [.int .i64 a0] (.bool r):=by
 unfold Eu at h
 refine acF Tryz.func234 mixed (h:=Z ?_)
 replace h:=AD h; obtain⟨u,w,h⟩:=h
 refine AI (J8 _ _ w) (Z ?_)
 refine AF ?_
 cases h
 simp only [go_sem]
theorem QN (a0 r) (h:LW a0=some r):AC Tryz.prog 236 [.int .i64 a0] (.bool r):=by
 unfold LW at h
 refine acF Tryz.func236 mixed (h:=Z ?_)
 refine AB h (fun h=>Z ?_) (fun h=>Z ?_)
 ·refine AF ?_
  cases h
  simp only [go_sem]
 ·refine AF ?_
  cases h
  simp only [go_sem]
theorem J9 (a0 r) (h:E5 a0=some r):AC Tryz.prog 237 [.int .i64 a0] (.bool r):=by
 unfold E5 at h
 refine acF Tryz.func237 mixed (h:=Z ?_)
 refine AB h (fun h=>Z ?_) (fun h=>Z ?_)
 ·refine AF ?_
  cases h
  simp only [go_sem]
 ·refine AF ?_
  cases h
  simp only [go_sem]
theorem Av (u:Bool) (w:Bool) (r:Bool) (h:Ao u w=some r):Aw Tryz.prog Tryz.f201 [1,1,1,1,1] (.bool r) ⟨[(3,.bool u),(4,.bool w)],[],[]⟩:=by
 unfold Ao at h
 refine AN rfl rfl (Z ?_)
 refine AB h (fun h=>Z ?_) (fun h=>Z ?_)
 ·refine AF ?_
  cases h
  simp only [go_sem]
 ·refine AF ?_
  cases h
  simp only [go_sem]
theorem FY (a0:Agent) (u:Bool) (r:Bool) (h:Bz a0 u=some r):Aw Tryz.prog Tryz.f201 [1,0,1] (.bool r) ⟨[(1,.box 1000000500 0),(32,.bool u)],[],[(1000000500,some [.int .i64 a0.kind,.int .i64 a0.level,.int .i64 a0.value,.ro (List.map AY a0.data),.ro (List.map Port.ds a0.ports)])]⟩:=by
 unfold Bz at h
 refine AN rfl rfl (Z ?_)
 refine AB h (fun h=>Z ?_) (fun h=>Z ?_)
 ·cases h
  simp only [go_sem]
 ·refine AF ?_
  refine AX [] .fin (by kernel_rfl) (Z ?_)
  refine AF ?_
  replace h:=AD h; obtain⟨w,y,h⟩:=h
  refine AI (FO _ _ 234 [] (Still.of rfl) (fun y0 q hq=>NM y0  q hq) _ y) (Z ?_)
  refine AF ?_
  refine AB h (fun h=>Z ?_) (fun h=>Z ?_)
  ·replace h:=AD h; obtain⟨g,j,h⟩:=h
   refine AI (QN _ _ j) (Z ?_)
   exact AT (Av g (decide (((List.length a0.data:Nat):Int)=0)) _ h) [] []
  ·refine AB h (fun h=>Z ?_) (fun h=>Z ?_)
   ·replace h:=AD h; obtain⟨k,b,h⟩:=h
    refine AI (J9 _ _ b) (Z ?_)
    exact AT (Av k (decide (((List.length a0.data:Nat):Int)=0)) _ h) [] []
   ·refine AB h (fun h=>Z ?_) (fun h=>Z ?_)
    ·replace h:=AD h; obtain⟨d,c,h⟩:=h
     refine AI (J9 _ _ c) (Z ?_)
     refine AB h (fun h=>Z ?_) (fun h=>Z ?_)
     ·refine AB h (fun h=>Z ?_) (fun h=>Z ?_)
      ·replace h:=AD h; obtain⟨e,i,h⟩:=h
       refine AM i rfl (Z ?_)
       replace h:=AD h; obtain⟨l,t,h⟩:=h
       refine AI (QN _ _ t) (Z ?_)
       refine AF ?_
       cases h
       simp only [go_sem]
      ·refine AF ?_
       cases h
       simp only [go_sem]
     ·refine AF ?_
      cases h
      simp only [go_sem]
    ·refine AB h (fun h=>Z ?_) (fun h=>Z ?_)
     ·refine AB h (fun h=>Z ?_) (fun h=>Z ?_)
      ·exact AT (Av (decide (a0.value<4)) (decide (((List.length a0.data:Nat):Int)=0)) _ h) [] []
      ·exact AT (Av false (decide (((List.length a0.data:Nat):Int)=0)) _ h) [] []
     ·refine AB h (fun h=>Z ?_) (fun h=>Z ?_)
      ·refine AB h (fun h=>Z ?_) (fun h=>Z ?_)
       ·refine AB h (fun h=>Z ?_) (fun h=>Z ?_)
        ·exact AT (Av (decide (a0.value=0)) (!w) _ h) [] []
        ·exact AT (Av (decide (a0.value=0)) false _ h) [] []
       ·exact AT (Av (decide (a0.value=0)) false _ h) [] []
      ·refine AB h (fun h=>Z ?_) (fun h=>Z ?_)
       ·refine AB h (fun h=>Z ?_) (fun h=>Z ?_)
        ·exact AT (Av (decide (a0.value=0)) (!w) _ h) [] []
        ·exact AT (Av (decide (a0.value=0)) false _ h) [] []
       ·refine AB h (fun h=>Z ?_) (fun h=>Z ?_)
        ·replace h:=AD h; obtain⟨s,o,h⟩:=h
         refine AI (J8 _ _ o) (Z ?_)
         exact AT (Av s (decide (((List.length a0.data:Nat):Int)=0)) _ h) [] []
        ·exact AT (Av (decide (a0.value=0)) (decide (((List.length a0.data:Nat):Int)=0)) _ h) [] []
theorem Od (a0 r) (h:GA a0=some r):AC Tryz.prog 201 [.agg (Agent.avs a0)] (.bool r):=by
 unfold GA at h
 refine acF Tryz.func201 mixed (h:=Z ?_)
 refine AX [] .fin (by kernel_rfl) (Z ?_)
 refine AB h (fun h=>Z ?_) (fun h=>Z ?_)
 ·exact AT (FY a0 true _ h) [] [(1000000500,1000)]
 ·replace h:=AD h; obtain⟨u,w,h⟩:=h
  refine AI (Qp _ _ _ w) (Z ?_)
  replace h:=AD h; obtain⟨y,q,h⟩:=h
  refine AI (Sd _ _ _ q) (Z ?_)
  refine AB h (fun h=>Z ?_) (fun h=>Z ?_)
  ·exact AT (FY a0 true _ h) [] [(1000000500,1000)]
  ·replace h:=AD h; obtain⟨g,j,h⟩:=h
   refine AI (GE _ _ _ j) (Z ?_)
   exact AT (FY a0 (!g) _ h) [] [(1000000500,1000)]
theorem MV (n:Nat):(∀a0 u r,CD n a0 u=some r→Aw Tryz.prog Tryz.f152 [1,1,0,1,0] (.bool r) ⟨[(13,.ro (List.map Agent.ds a0)),(14,.int .i64 ((List.length a0:Nat):Int)),(15,.int .i64 u)],[],[]⟩)∧
    (∀a0 u w r,DG n a0 u w=some r→Aw Tryz.prog Tryz.f152 [1,1,0,1,0,0,1,1,0,0,1,1] (.bool r) ⟨[(13,.ro (List.map Agent.ds a0)),(14,.int .i64 ((List.length a0:Nat):Int)),(15,.int .i64 u),(30,.bool w)],[],[]⟩):=by
 induction n with
 |zero=>exact⟨(fun _ _ _ h=>by rw [CD] at h; cases h),(fun _ _ _ _ h=>by rw [DG] at h; cases h)⟩
 | succ n ih=>
  obtain⟨ih0,ih1⟩:=ih
  refine⟨?_,?_⟩
  ·intro a0 u r h
   rw [CD] at h
   refine AN rfl rfl (Z ?_)
   refine Ad (Z ?_)
   refine AB h (fun h=>Z ?_) (fun h=>Z ?_)
   ·refine AF ?_
    replace h:=AD h; obtain⟨y,q,h⟩:=h
    refine AM q (Agent.ds_len _) (Z ?_)
    refine AF ?_
    replace h:=AD h; obtain⟨g,j,h⟩:=h
    refine AI (Od _ _ j) (Z ?_)
    refine AB h (fun h=>Z ?_) (fun h=>Z ?_)
    ·exact AT (ih1 a0 u true _ h) [] []
    ·exact AT (ih1 a0 u (!((decide (y.kind=1)) == (decide (u=0)))) _ h) [] []
   ·refine AF ?_
    cases h
    simp only [go_sem]
  ·intro a0 u w r h
   rw [DG] at h
   refine AN rfl rfl (Z ?_)
   refine AB h (fun h=>Z ?_) (fun h=>Z ?_)
   ·cases h
    simp only [go_sem]
   ·refine AF ?_
    exact lpF (ih0 a0 (IntKind.i64.wrap (u+1)) _ h) [] []
theorem NN (n:Nat):(∀a0 u r,CD n a0 u=some r→Aw Tryz.prog Tryz.f152 [1,1,0,1,0] (.bool r) ⟨[(13,.ro (List.map Agent.ds a0)),(14,.int .i64 ((List.length a0:Nat):Int)),(15,.int .i64 u)],[],[]⟩):=(MV n).1
theorem Ih (a0:List Agent) (u:Bool) (r:Bool) (h:Dx a0 u=some r):Aw Tryz.prog Tryz.f152 [1,0,1] (.bool r) ⟨[(0,.ro (List.map Agent.ds a0)),(12,.bool u)],[],[]⟩:=by
 unfold Dx at h
 refine AN rfl rfl (Z ?_)
 refine AB h (fun h=>Z ?_) (fun h=>Z ?_)
 ·cases h
  simp only [go_sem]
 ·refine AF ?_
  exact loF (NN fuel a0 0 _ h) [] []
theorem QO (a0 r) (h:G3 a0=some r):AC Tryz.prog 152 [.ro (List.map Agent.ds a0)] (.bool r):=by
 unfold G3 at h
 refine acF Tryz.func152 mixed (h:=Z ?_)
 refine AB h (fun h=>Z ?_) (fun h=>Z ?_)
 ·exact AT (Ih a0 true _ h) [] []
 ·exact AT (Ih a0 (decide (600<((List.length a0:Nat):Int))) _ h) [] []
theorem HE (n:Nat):(∀ (a0:List Port) (u:Int) (f1:(Port→Option Bool)) (g1:FuncId) (c1:List AV) (s1:Still c1) (h1:∀ (y0:Port) (q:Bool),f1 y0=some q→AC Tryz.prog g1 (.agg (Port.avs y0)::c1) (.bool q)) (r:Int),A0 n a0 u f1=some r→Aw Tryz.prog Tryz.f202 [1,0,1,0] (.int .i64 r) ⟨[(0,.ro (List.map Port.ds a0)),(1,.fn g1 c1),(7,.int .i64 ((List.length a0:Nat):Int)),(8,.int .i64 u)],[],[]⟩):=by
 induction n with
 |zero=>exact((fun _ _ _ _ _ _ _ _ h=>by rw [A0] at h; cases h))
 | succ n ih=>
  have ih0:=ih
  ·intro a0 u f1 g1 c1 s1 h1 r h
   rw [A0] at h
   refine AN rfl rfl ?_
   try simp only [go_sem,s1.k,s1.r,s1.c,s1.p]
   refine Ad ?_
   try simp only [go_sem,s1.k,s1.r,s1.c,s1.p]
   refine AB h (fun h=>?_) (fun h=>?_)
   ·try simp only [go_sem,s1.k,s1.r,s1.c,s1.p]
    refine FD ?_
    try simp only [go_sem,s1.k,s1.r,s1.c,s1.p]
    replace h:=AD h; obtain⟨w,y,h⟩:=h
    refine AM y (Port.ds_len _) ?_
    try simp only [go_sem,s1.k,s1.r,s1.c,s1.p]
    replace h:=AD h; obtain⟨g,j,h⟩:=h
    refine AI (h1 _ _ j) ?_
    try simp only [go_sem,s1.k,s1.r,s1.c,s1.p]
    refine FD ?_
    try simp only [go_sem,s1.k,s1.r,s1.c,s1.p]
    refine AB h (fun h=>?_) (fun h=>?_)
    ·try simp only [go_sem,s1.k,s1.r,s1.c,s1.p]
     cases h
     simp only [go_sem,s1.k,s1.r,s1.c,s1.p]
    ·try simp only [go_sem,s1.k,s1.r,s1.c,s1.p]
     refine FD ?_
     try simp only [go_sem,s1.k,s1.r,s1.c,s1.p]
     refine RP (D8 rfl rfl (ih0 a0 (IntKind.i64.wrap (u+1)) f1 g1 c1 s1 h1 _ h):) (.one ⟨_,.done _,[],[],?_⟩)
     try simp only [go_sem,s1.k,s1.r,s1.c,s1.p]
   ·try simp only [go_sem,s1.k,s1.r,s1.c,s1.p]
    refine FD ?_
    try simp only [go_sem,s1.k,s1.r,s1.c,s1.p]
    cases h
    simp only [go_sem,s1.k,s1.r,s1.c,s1.p]
theorem IP (a0:List Port) (f1:(Port→Option Bool)) (g1:FuncId) (c1:List AV) (s1:Still c1) (h1:∀ (y0:Port) (q:Bool),f1 y0=some q→AC Tryz.prog g1 (.agg (Port.avs y0)::c1) (.bool q)) (r:Int) (h:Cu a0 f1=some r):AC Tryz.prog 202 [.ro (List.map Port.ds a0),.fn g1 c1] (.int .i64 r):=by
 unfold Cu at h
 refine acF Tryz.func202 mixed (h:=?_)
 try simp only [go_sem,s1.k,s1.r,s1.c,s1.p]
 refine DT (D8 rfl rfl (HE fuel a0 0 f1 g1 c1 s1 h1 _ h):) (.one ⟨_,.done _,[],[],?_⟩)
 try simp only [go_sem,s1.k,s1.r,s1.c,s1.p]
theorem HF (a0:List Port) (f1:(Port→Option Bool)) (g1:FuncId) (c1:List AV) (s1:Still c1) (h1:∀ (y0:Port) (q:Bool),f1 y0=some q→AC Tryz.prog g1 (.agg (Port.avs y0)::c1) (.bool q)) (r:Bool) (h:Bh a0 f1=some r):AC Tryz.prog 153 [.ro (List.map Port.ds a0),.fn g1 c1] (.bool r):=by
 unfold Bh at h
 refine acF Tryz.func153 mixed (h:=?_)
 try simp only [go_sem,s1.k,s1.r,s1.c,s1.p]
 replace h:=AD h; obtain⟨u,w,h⟩:=h
 refine AI (IP _ _ g1 c1 s1 h1 _ w) ?_
 try simp only [go_sem,s1.k,s1.r,s1.c,s1.p]
 refine FD ?_
 try simp only [go_sem,s1.k,s1.r,s1.c,s1.p]
 cases h
 simp only [go_sem,s1.k,s1.r,s1.c,s1.p]
theorem MW (n:Nat):(∀a0 u w r,Bt n a0 u w=some r→Aw Tryz.prog Tryz.f154 [1,1,0,1,0] (.ow (some 2) (List.map Port.ds r)) ⟨[(3,.own 1000000000),(10,.ro (List.map Agent.ds a0.agents)),(11,.int .i64 ((List.length a0.agents:Nat):Int)),(12,.int .i64 w)],[(1000000000,some ⟨List.map Port.ds u,some 2,0,false⟩)],[]⟩)∧
    (∀a0 w y q g r,Cc n a0 w y q g=some r→Aw Tryz.prog Tryz.f154 [1,1,0,1,0,0,1,1,0,0,1,1,0] (.ow (some 2) (List.map Port.ds r)) ⟨[(3,.own 1000004000),(4,.int .i64 w),(10,.ro (List.map Agent.ds a0.agents)),(11,.int .i64 ((List.length a0.agents:Nat):Int)),(12,.int .i64 w),(19,.int .i64 ((List.length y.ports:Nat):Int)),(20,.int .i64 g)],[(1000004000,some ⟨List.map Port.ds q,some 2,0,false⟩)],[]⟩):=by
 induction n with
 |zero=>exact⟨(fun _ _ _ _ h=>by rw [Bt] at h; cases h),(fun _ _ _ _ _ _ h=>by rw [Cc] at h; cases h)⟩
 | succ n ih=>
  obtain⟨ih0,ih1⟩:=ih
  refine⟨?_,?_⟩
  ·intro a0 u w r h
   rw [Bt] at h
   refine AN rfl rfl (Z ?_)
   refine Ad (Z ?_)
   refine AB h (fun h=>Z ?_) (fun h=>Z ?_)
   ·refine AF ?_
    replace h:=AD h; obtain⟨y,j,h⟩:=h
    refine AM j (Agent.ds_len _) (Z ?_)
    refine AF ?_
    exact loF (ih1 a0 w y u 0 _ h) [(1000004000,1000000000)] []
   ·refine AF ?_
    cases h
    simp only [go_sem]
  ·intro a0 w y q g r h
   rw [Cc] at h
   refine AN rfl rfl (Z ?_)
   refine Ad (Z ?_)
   refine AB h (fun h=>Z ?_) (fun h=>Z ?_)
   ·refine AF ?_
    replace h:=AD h; obtain⟨k,b,h⟩:=h
    have hq_:=BH b
    obtain⟨hv9005a,hv9005b⟩:=hq_
    refine Dt false (Z ?_)
    refine BO (by refine⟨?_,?_⟩ <;> (try simp only [List.length_map,List.length_append,List.length_cons,List.length_nil] at*) <;> (try unfold maxLen) <;> omega) (Z ?_)
    refine BP (List.map Port.ds k) (by rw [← hv9005b]; simp only [List.map_append,List.map_cons,List.map_nil,List.nil_append,List.append_nil,go_sem,Port.ds_eq]) (Z ?_)
    refine AF ?_
    exact lpF (ih1 a0 w y k (IntKind.i64.wrap (g+1)) _ h) [(1000004000,144080)] []
   ·refine AF ?_
    exact lpF (ih0 a0 q (IntKind.i64.wrap (w+1)) _ h) [(1000000000,1000004000)] []
theorem NO (n:Nat):(∀a0 u w r,Bt n a0 u w=some r→Aw Tryz.prog Tryz.f154 [1,1,0,1,0] (.ow (some 2) (List.map Port.ds r)) ⟨[(3,.own 1000000000),(10,.ro (List.map Agent.ds a0.agents)),(11,.int .i64 ((List.length a0.agents:Nat):Int)),(12,.int .i64 w)],[(1000000000,some ⟨List.map Port.ds u,some 2,0,false⟩)],[]⟩):=(MW n).1
theorem QP (a0 r) (h:G4 a0=some r):AC Tryz.prog 154 [.rop (Net.avs a0) 0] (.ow (some 2) (List.map Port.ds r)):=by
 unfold G4 at h
 refine acF Tryz.func154 mixed (h:=Z ?_)
 refine DT (D8 rfl rfl (NO fuel a0 [] 0 _ h):) (.one ⟨_,.slot 3 2000000000 (some 2) false (by simp only [go_sem]) (by simp only [go_sem]) (.done _),[(1000000000,2000000000)],[],?_⟩)
 simp only [go_sem]
 all_goals try rfl
theorem EX (a0 a1 r) (h:Ci a0 a1=some r):AC Tryz.prog 156 [.rop (Net.avs a0) 0,.agg (Port.avs a1)] (.agg (Port.rv r)):=by
 unfold Ci at h
 refine acF Tryz.func156 mixed (h:=Z ?_)
 refine AF ?_
 refine AX [false,false,false,false,false,false,false,false,false,false,false,false,false,true] (Tr.sq [13] .fin) (by kernel_rfl) (Z ?_)
 replace h:=AD h; obtain⟨u,w,h⟩:=h
 refine AM w (Agent.ds_len _) (Z ?_)
 replace h:=AD h; obtain⟨y,q,h⟩:=h
 refine AM q (Port.ds_len _) (Z ?_)
 refine AF ?_
 cases h
 simp only [go_sem]
theorem Se (a0 a1 r) (h:JC a0 a1=some r):AC Tryz.prog 157 [.ro (List.map Agent.ds a0),.agg (Port.avs a1)] (.bool r):=by
 unfold JC at h
 refine acF Tryz.func157 mixed (h:=Z ?_)
 refine AX [] .fin (by kernel_rfl) (Z ?_)
 refine AB h (fun h=>Z ?_) (fun h=>Z ?_)
 ·refine AB h (fun h=>Z ?_) (fun h=>Z ?_)
  ·refine AB h (fun h=>Z ?_) (fun h=>Z ?_)
   ·replace h:=AD h; obtain⟨u,w,h⟩:=h
    refine AM w (Agent.ds_len _) (Z ?_)
    refine AF ?_
    cases h
    simp only [go_sem]
   ·refine AF ?_
    cases h
    simp only [go_sem]
  ·refine AF ?_
   cases h
   simp only [go_sem]
 ·refine AF ?_
  cases h
  simp only [go_sem]
theorem Oe (a0 a1 r) (h:GB a0 a1=some r):AC Tryz.prog 155 [.agg (Port.avs a0),.rop (Net.avs a1) 0] (.bool r):=by
 unfold GB at h
 refine acF Tryz.func155 mixed (h:=Z ?_)
 replace h:=AD h; obtain⟨u,w,h⟩:=h
 refine AI (EX _ _ _ w) (Z ?_)
 refine AF ?_
 refine AX [] .fin (by kernel_rfl) (Z ?_)
 refine AB h (fun h=>Z ?_) (fun h=>Z ?_)
 ·refine AF ?_
  cases h
  simp only [go_sem]
 ·replace h:=AD h; obtain⟨y,q,h⟩:=h
  refine AI (Se _ _ _ q) (Z ?_)
  refine AB h (fun h=>Z ?_) (fun h=>Z ?_)
  ·refine AF ?_
   cases h
   simp only [go_sem]
  ·replace h:=AD h; obtain⟨g,j,h⟩:=h
   refine AI (EX _ _ _ j) (Z ?_)
   refine AF ?_
   cases h
   simp only [go_sem]
theorem Lt (a0 r) (h:GT a0=some r):AC Tryz.prog 86 [.agg (Net.avs a0)] (.bool r):=by
 unfold GT at h
 refine acF Tryz.func86 mixed (h:=Z ?_)
 replace h:=AD h; obtain⟨u,w,h⟩:=h
 refine AI (QO _ _ w) (Z ?_)
 refine AF ?_
 refine AB h (fun h=>Z ?_) (fun h=>Z ?_)
 ·cases h
  simp only [go_sem]
 ·refine AF ?_
  replace h:=AD h; obtain⟨y,g,h⟩:=h
  refine AI (QP _ _ g) (Z ?_)
  replace h:=AD h; obtain⟨j,k,h⟩:=h
  refine AI (HF _ _ 155 [.rop [.ro (List.map Agent.ds a0.agents)] 0] (Still.of (by simp only [FS,GJ,Bool.and_true,Bool.true_and,Bool.and_self])) (fun y0 q hq=>Oe y0 _ q hq) _ k) (Z ?_)
  refine AF ?_
  cases h
  simp only [go_sem]
theorem BN (a0 a1 a2 r) (h:CB a0 a1 a2=some r):AC Tryz.prog 59 [.int .i64 a0,.int .i64 a1,.int .i64 a2] (.bool r):=by
 unfold CB at h
 refine acF Tryz.func59 mixed (h:=Z ?_)
 refine AB h (fun h=>Z ?_) (fun h=>Z ?_)
 ·refine AF ?_
  cases h
  simp only [go_sem]
 ·refine AF ?_
  cases h
  simp only [go_sem]
theorem IG (a0 r) (h:Ca a0=some r):AC Tryz.prog 165 [.rop (Agent.avs a0) 0] (.int .i64 r):=by
 unfold Ca at h
 refine acF Tryz.func165 mixed (h:=Z ?_)
 refine AB h (fun h=>Z ?_) (fun h=>Z ?_)
 ·cases h
  simp only [go_sem]
 ·refine AF ?_
  cases h
  simp only [go_sem]
theorem FQ (u:Bool) (r:Int) (h:EE u=some r):Aw Tryz.prog Tryz.f228 [1,1,1,0,1,0,1,1,1,1,1] (.int .i64 r) ⟨[(23,.bool u)],[],[]⟩:=by
 unfold EE at h
 refine AN rfl rfl (Z ?_)
 refine AB h (fun h=>Z ?_) (fun h=>Z ?_)
 ·cases h
  simp only [go_sem]
 ·refine AF ?_
  cases h
  simp only [go_sem]
theorem HG (a0:Int) (u:Bool) (r:Int) (h:E6 a0 u=some r):Aw Tryz.prog Tryz.f228 [1,1,1,0,1,0,1,1,1] (.int .i64 r) ⟨[(13,.int .i64 a0),(19,.bool u)],[],[]⟩:=by
 unfold E6 at h
 refine AN rfl rfl (Z ?_)
 refine AB h (fun h=>Z ?_) (fun h=>Z ?_)
 ·cases h
  simp only [go_sem]
 ·refine AB h (fun h=>Z ?_) (fun h=>Z ?_)
  ·exact AT (FQ (decide (a0=2)) _ h) [] []
  ·refine AB h (fun h=>Z ?_) (fun h=>Z ?_)
   ·exact AT (FQ (decide (a0=3)) _ h) [] []
   ·refine AB h (fun h=>Z ?_) (fun h=>Z ?_)
    ·exact AT (FQ (decide (a0=4)) _ h) [] []
    ·exact AT (FQ (decide (a0=7)) _ h) [] []
theorem FR (a0:Int) (u:Bool) (r:Int) (h:EF a0 u=some r):Aw Tryz.prog Tryz.f228 [1,1,1,0,1,0,1] (.int .i64 r) ⟨[(13,.int .i64 a0),(14,.bool u)],[],[]⟩:=by
 unfold EF at h
 refine AN rfl rfl (Z ?_)
 refine AB h (fun h=>Z ?_) (fun h=>Z ?_)
 ·cases h
  simp only [go_sem]
 ·refine AB h (fun h=>Z ?_) (fun h=>Z ?_)
  ·exact AT (HG a0 (decide (a0=8)) _ h) [] []
  ·refine AB h (fun h=>Z ?_) (fun h=>Z ?_)
   ·exact AT (HG a0 (decide (a0=10)) _ h) [] []
   ·exact AT (HG a0 (decide (a0=11)) _ h) [] []
theorem Sf (a0 a1 r) (h:GU a0 a1=some r):AC Tryz.prog 228 [.int .i64 a0,.int .i64 a1] (.int .i64 r):=by
 unfold GU at h
 refine acF Tryz.func228 mixed (h:=Z ?_)
 refine AB h (fun h=>Z ?_) (fun h=>Z ?_)
 ·replace h:=AD h; obtain⟨u,w,h⟩:=h
  refine AI (BN _ _ _ _ w) (Z ?_)
  refine AF ?_
  refine AB h (fun h=>Z ?_) (fun h=>Z ?_)
  ·cases h
   simp only [go_sem]
  ·refine AF ?_
   cases h
   simp only [go_sem]
 ·refine AF ?_
  refine AB h (fun h=>Z ?_) (fun h=>Z ?_)
  ·cases h
   simp only [go_sem]
  ·refine AF ?_
   refine AB h (fun h=>Z ?_) (fun h=>Z ?_)
   ·exact AT (FR a0 (decide (a0=1)) _ h) [] []
   ·refine AB h (fun h=>Z ?_) (fun h=>Z ?_)
    ·exact AT (FR a0 (decide (a0=5)) _ h) [] []
    ·refine AB h (fun h=>Z ?_) (fun h=>Z ?_)
     ·exact AT (FR a0 (decide (a0=6)) _ h) [] []
     ·exact AT (FR a0 (decide (a0=12)) _ h) [] []
theorem Bg (u:Bool) (r:Bool) (h:BA u=some r):Aw Tryz.prog Tryz.f195 [1,0,1,0,1] (.bool r) ⟨[(4,.bool u)],[],[]⟩:=by
 unfold BA at h
 refine AN rfl rfl (Z ?_)
 refine AB h (fun h=>Z ?_) (fun h=>Z ?_)
 ·cases h
  simp only [go_sem]
 ·refine AF ?_
  cases h
  simp only [go_sem]
theorem Io (a0 r) (h:Dh a0=some r):AC Tryz.prog 195 [.int .i64 a0] (.bool r):=by
 unfold Dh at h
 refine acF Tryz.func195 mixed (h:=Z ?_)
 refine AB h (fun h=>Z ?_) (fun h=>Z ?_)
 ·exact AT (Bg (decide (a0=2)) _ h) [] []
 ·refine AB h (fun h=>Z ?_) (fun h=>Z ?_)
  ·exact AT (Bg (decide (a0=3)) _ h) [] []
  ·refine AB h (fun h=>Z ?_) (fun h=>Z ?_)
   ·exact AT (Bg (decide (a0=4)) _ h) [] []
   ·refine AB h (fun h=>Z ?_) (fun h=>Z ?_)
    ·exact AT (Bg (decide (a0=7)) _ h) [] []
    ·refine AB h (fun h=>Z ?_) (fun h=>Z ?_)
     ·exact AT (Bg (decide (a0=8)) _ h) [] []
     ·refine AB h (fun h=>Z ?_) (fun h=>Z ?_)
      ·exact AT (Bg (decide (a0=9)) _ h) [] []
      ·refine AB h (fun h=>Z ?_) (fun h=>Z ?_)
       ·exact AT (Bg (decide (a0=10)) _ h) [] []
       ·refine AB h (fun h=>Z ?_) (fun h=>Z ?_)
        ·exact AT (Bg (decide (a0=11)) _ h) [] []
        ·exact AT (Bg (decide (a0=12)) _ h) [] []
theorem Sg (a0 r) (h:JD a0=some r):AC Tryz.prog 245 [.int .i64 a0] (.bool r):=by
 unfold JD at h
 refine acF Tryz.func245 mixed (h:=Z ?_)
 replace h:=AD h; obtain⟨u,w,h⟩:=h
 refine AI (BN _ _ _ _ w) (Z ?_)
 refine AF ?_
 cases h
 simp only [go_sem]
theorem Gk (a0 a1 r) (h:EA a0 a1=some r):AC Tryz.prog 229 [.int .i64 a0,.int .i64 a1] (.bool r):=by
 unfold EA at h
 refine acF Tryz.func229 mixed (h:=Z ?_)
 replace h:=AD h; obtain⟨u,w,h⟩:=h
 refine AI (Io _ _ w) (Z ?_)
 refine AF ?_
 refine AB h (fun h=>Z ?_) (fun h=>Z ?_)
 ·replace h:=AD h; obtain⟨y,q,h⟩:=h
  refine AI (BN _ _ _ _ q) (Z ?_)
  refine AF ?_
  cases h
  simp only [go_sem]
 ·refine AF ?_
  replace h:=AD h; obtain⟨g,j,h⟩:=h
  refine AI (Sg _ _ j) (Z ?_)
  refine AB h (fun h=>Z ?_) (fun h=>Z ?_)
  ·refine AF ?_
   cases h
   simp only [go_sem]
  ·refine AF ?_
   cases h
   simp only [go_sem]
theorem OL (a0 r) (h:H6 a0=some r):AC Tryz.prog 246 [.int .i64 a0] (.bool r):=by
 unfold H6 at h
 refine acF Tryz.func246 mixed (h:=Z ?_)
 replace h:=AD h; obtain⟨u,w,h⟩:=h
 refine AI (BN _ _ _ _ w) (Z ?_)
 refine AF ?_
 cases h
 simp only [go_sem]
theorem MX (n:Nat):(∀a0 u r,CO n a0 u=some r→Aw Tryz.prog Tryz.f230 [1,0,1,0,1,1,1,1,1,1,1,1,1,1,1,0,1,0,1,0] (.bool r) ⟨[(0,.rop [.int .i64 a0.kind,.int .i64 a0.level,.int .i64 a0.value,.ro (List.map AY a0.data),.ro (List.map Port.ds a0.ports)] 0),(3,.int .i64 u)],[],[]⟩):=by
 induction n with
 |zero=>exact((fun _ _ _ h=>by rw [CO] at h; cases h))
 | succ n ih=>
  have ih0:=ih
  ·intro a0 u r h
   rw [CO] at h
   refine AN rfl rfl (Z ?_)
   refine Ad (Z ?_)
   refine AB h (fun h=>Z ?_) (fun h=>Z ?_)
   ·refine AF ?_
    replace h:=AD h; obtain⟨w,y,h⟩:=h
    refine AM y rfl (Z ?_)
    replace h:=AD h; obtain⟨q,g,h⟩:=h
    refine AI (OL _ _ g) (Z ?_)
    refine AF ?_
    refine AB h (fun h=>Z ?_) (fun h=>Z ?_)
    ·cases h
     simp only [go_sem]
    ·refine AF ?_
     exact lpF (ih0 a0 (IntKind.i64.wrap (u+1)) _ h) [] []
   ·refine AF ?_
    cases h
    simp only [go_sem]
theorem CT (a0:Agent) (u:Bool) (r:Bool) (h:B0 a0 u=some r):Aw Tryz.prog Tryz.f230 [1,0,1,0,1,1,1,1,1,1,1,1,1,1,1,0,0,1] (.bool r) ⟨[(0,.rop [.int .i64 a0.kind,.int .i64 a0.level,.int .i64 a0.value,.ro (List.map AY a0.data),.ro (List.map Port.ds a0.ports)] 0),(130,.bool u)],[],[]⟩:=by
 unfold B0 at h
 refine AN rfl rfl (Z ?_)
 refine AB h (fun h=>Z ?_) (fun h=>Z ?_)
 ·cases h
  simp only [go_sem]
 ·refine AF ?_
  exact loF (MX fuel a0 0 _ h) [] []
theorem II (a0:Agent) (u:Bool) (r:Bool) (h:EP a0 u=some r):Aw Tryz.prog Tryz.f230 [1,0,1,0,1,1,1,1,1,1,1,1,1,1,1] (.bool r) ⟨[(0,.rop [.int .i64 a0.kind,.int .i64 a0.level,.int .i64 a0.value,.ro (List.map AY a0.data),.ro (List.map Port.ds a0.ports)] 0),(92,.bool u)],[],[]⟩:=by
 unfold EP at h
 refine AN rfl rfl (Z ?_)
 refine AB h (fun h=>Z ?_) (fun h=>Z ?_)
 ·refine AB h (fun h=>Z ?_) (fun h=>Z ?_)
  ·exact AT (CT a0 true _ h) [] []
  ·refine AB h (fun h=>Z ?_) (fun h=>Z ?_)
   ·refine AB h (fun h=>Z ?_) (fun h=>Z ?_)
    ·exact AT (CT a0 true _ h) [] []
    ·refine AB h (fun h=>Z ?_) (fun h=>Z ?_)
     ·replace h:=AD h; obtain⟨w,y,h⟩:=h
      refine AI (BN _ _ _ _ y) (Z ?_)
      exact AT (CT a0 (!w) _ h) [] []
     ·exact AT (CT a0 false _ h) [] []
   ·refine AB h (fun h=>Z ?_) (fun h=>Z ?_)
    ·replace h:=AD h; obtain⟨w,y,h⟩:=h
     refine AI (BN _ _ _ _ y) (Z ?_)
     exact AT (CT a0 (!w) _ h) [] []
    ·exact AT (CT a0 false _ h) [] []
 ·refine AF ?_
  refine AB h (fun h=>Z ?_) (fun h=>Z ?_)
  ·refine AF ?_
   cases h
   simp only [go_sem]
  ·refine AF ?_
   cases h
   simp only [go_sem]
theorem Of (a0 r) (h:GC a0=some r):AC Tryz.prog 230 [.rop (Agent.avs a0) 0] (.bool r):=by
 unfold GC at h
 refine acF Tryz.func230 mixed (h:=Z ?_)
 refine AB h (fun h=>Z ?_) (fun h=>Z ?_)
 ·refine AB h (fun h=>Z ?_) (fun h=>Z ?_)
  ·replace h:=AD h; obtain⟨u,w,h⟩:=h
   refine AI (BN _ _ _ _ w) (Z ?_)
   refine AF ?_
   cases h
   simp only [go_sem]
  ·refine AF ?_
   cases h
   simp only [go_sem]
 ·refine AB h (fun h=>Z ?_) (fun h=>Z ?_)
  ·refine AB h (fun h=>Z ?_) (fun h=>Z ?_)
   ·replace h:=AD h; obtain⟨y,q,h⟩:=h
    refine AI (BN _ _ _ _ q) (Z ?_)
    refine AF ?_
    cases h
    simp only [go_sem]
   ·refine AF ?_
    cases h
    simp only [go_sem]
  ·refine AB h (fun h=>Z ?_) (fun h=>Z ?_)
   ·refine AB h (fun h=>Z ?_) (fun h=>Z ?_)
    ·replace h:=AD h; obtain⟨g,j,h⟩:=h
     refine AI (BN _ _ _ _ j) (Z ?_)
     refine AB h (fun h=>Z ?_) (fun h=>Z ?_)
     ·replace h:=AD h; obtain⟨k,b,h⟩:=h
      refine AM b rfl (Z ?_)
      replace h:=AD h; obtain⟨d,c,h⟩:=h
      refine AI (BN _ _ _ _ c) (Z ?_)
      refine AF ?_
      cases h
      simp only [go_sem]
     ·refine AF ?_
      cases h
      simp only [go_sem]
    ·refine AF ?_
     cases h
     simp only [go_sem]
   ·refine AB h (fun h=>Z ?_) (fun h=>Z ?_)
    ·refine AB h (fun h=>Z ?_) (fun h=>Z ?_)
     ·replace h:=AD h; obtain⟨e,i,h⟩:=h
      refine AI (BN _ _ _ _ i) (Z ?_)
      refine AF ?_
      cases h
      simp only [go_sem]
     ·refine AF ?_
      cases h
      simp only [go_sem]
    ·refine AB h (fun h=>Z ?_) (fun h=>Z ?_)
     ·refine AB h (fun h=>Z ?_) (fun h=>Z ?_)
      ·replace h:=AD h; obtain⟨l,t,h⟩:=h
       refine AI (OL _ _ t) (Z ?_)
       refine AF ?_
       cases h
       simp only [go_sem]
      ·refine AF ?_
       cases h
       simp only [go_sem]
     ·refine AB h (fun h=>Z ?_) (fun h=>Z ?_)
      ·exact AT (II a0 (decide (a0.kind=10)) _ h) [] []
      ·exact AT (II a0 (decide (a0.kind=11)) _ h) [] []
theorem Qq (a0 r) (h:H7 a0=some r):AC Tryz.prog 200 [.rop (Agent.avs a0) 0] (.bool r):=by
 unfold H7 at h
 refine acF Tryz.func200 mixed (h:=Z ?_)
 refine AX [] .fin (by kernel_rfl) (Z ?_)
 replace h:=AD h; obtain⟨u,w,h⟩:=h
 refine AI (IG _ _ w) (Z ?_)
 replace h:=AD h; obtain⟨y,q,h⟩:=h
 refine AI (Sf _ _ _ q) (Z ?_)
 refine AF ?_
 refine AX [] .fin (by kernel_rfl) (Z ?_)
 refine AB h (fun h=>Z ?_) (fun h=>Z ?_)
 ·refine AB h (fun h=>Z ?_) (fun h=>Z ?_)
  ·replace h:=AD h; obtain⟨g,j,h⟩:=h
   refine AI (Gk _ _ _ j) (Z ?_)
   refine AB h (fun h=>Z ?_) (fun h=>Z ?_)
   ·replace h:=AD h; obtain⟨k,b,h⟩:=h
    refine AI (Of _ _ b) (Z ?_)
    refine AF ?_
    cases h
    simp only [go_sem]
   ·refine AF ?_
    cases h
    simp only [go_sem]
  ·refine AF ?_
   cases h
   simp only [go_sem]
 ·refine AF ?_
  cases h
  simp only [go_sem]
theorem MY (n:Nat):(∀a0 u r,CE n a0 u=some r→Aw Tryz.prog Tryz.f150 [1,1,0,1,0] (.bool r) ⟨[(0,.ro (List.map Agent.ds a0)),(3,.int .i64 u)],[],[]⟩)∧
    (∀a0 u w r,DH n a0 u w=some r→Aw Tryz.prog Tryz.f150 [1,1,0,1,0,0,1,0,0,1] (.bool r) ⟨[(0,.ro (List.map Agent.ds a0)),(3,.int .i64 u),(29,.bool w)],[],[]⟩):=by
 induction n with
 |zero=>exact⟨(fun _ _ _ h=>by rw [CE] at h; cases h),(fun _ _ _ _ h=>by rw [DH] at h; cases h)⟩
 | succ n ih=>
  obtain⟨ih0,ih1⟩:=ih
  refine⟨?_,?_⟩
  ·intro a0 u r h
   rw [CE] at h
   refine AN rfl rfl (Z ?_)
   refine Ad (Z ?_)
   refine AB h (fun h=>Z ?_) (fun h=>Z ?_)
   ·refine AF ?_
    replace h:=AD h; obtain⟨y,q,h⟩:=h
    refine AM q (Agent.ds_len _) (Z ?_)
    replace h:=AD h; obtain⟨g,j,h⟩:=h
    refine AI (Qq _ _ j) (Z ?_)
    refine AB h (fun h=>Z ?_) (fun h=>Z ?_)
    ·exact AT (ih1 a0 u true _ h) [] []
    ·replace h:=AD h; obtain⟨k,b,h⟩:=h
     refine AM b (Agent.ds_len _) (Z ?_)
     exact AT (ih1 a0 u (!((decide (k.kind=1)) == (decide (u=0)))) _ h) [] []
   ·refine AF ?_
    cases h
    simp only [go_sem]
  ·intro a0 u w r h
   rw [DH] at h
   refine AN rfl rfl (Z ?_)
   refine AB h (fun h=>Z ?_) (fun h=>Z ?_)
   ·cases h
    simp only [go_sem]
   ·refine AF ?_
    exact lpF (ih0 a0 (IntKind.i64.wrap (u+1)) _ h) [] []
theorem NP (n:Nat):(∀a0 u r,CE n a0 u=some r→Aw Tryz.prog Tryz.f150 [1,1,0,1,0] (.bool r) ⟨[(0,.ro (List.map Agent.ds a0)),(3,.int .i64 u)],[],[]⟩):=(MY n).1
theorem QQ (a0 r) (h:G5 a0=some r):AC Tryz.prog 150 [.ro (List.map Agent.ds a0)] (.bool r):=by
 unfold G5 at h
 refine acF Tryz.func150 mixed (h:=Z ?_)
 replace h:=AD h; obtain⟨u,w,h⟩:=h
 refine AI (BN _ _ _ _ w) (Z ?_)
 refine AF ?_
 refine AB h (fun h=>Z ?_) (fun h=>Z ?_)
 ·cases h
  simp only [go_sem]
 ·refine AF ?_
  exact loF (NP fuel a0 0 _ h) [] []
theorem Si (a0 a1 r) (h:JE a0 a1=some r):AC Tryz.prog 151 [.ro (List.map Agent.ds a0),.agg (Port.avs a1)] (.bool r):=by
 unfold JE at h
 refine acF Tryz.func151 mixed (h:=Z ?_)
 refine AX [] .fin (by kernel_rfl) (Z ?_)
 replace h:=AD h; obtain⟨u,w,h⟩:=h
 refine AI (BN _ _ _ _ w) (Z ?_)
 refine AB h (fun h=>Z ?_) (fun h=>Z ?_)
 ·replace h:=AD h; obtain⟨y,q,h⟩:=h
  refine AM q (Agent.ds_len _) (Z ?_)
  replace h:=AD h; obtain⟨g,j,h⟩:=h
  refine AI (BN _ _ _ _ j) (Z ?_)
  refine AF ?_
  cases h
  simp only [go_sem]
 ·refine AF ?_
  cases h
  simp only [go_sem]
theorem QR (n:Nat):(∀a0 u r,Dp n a0 u=some r→Aw Tryz.prog Tryz.f84 [1,1,0,1,0] (.bool r) ⟨[(0,.rop [.ro (List.map Agent.ds a0.agents)] 0),(3,.int .i64 u)],[],[]⟩)∧
    (∀a0 u w y r,D5 n a0 u w y=some r→Aw Tryz.prog Tryz.f84 [1,1,0,1,0,0,1,0,0,1,1,0] (.bool r) ⟨[(0,.rop [.ro (List.map Agent.ds a0.agents)] 0),(3,.int .i64 u),(4,.rop [.int .i64 w.kind,.int .i64 w.level,.int .i64 w.value,.ro (List.map AY w.data),.ro (List.map Port.ds w.ports)] 0),(5,.int .i64 y)],[],[]⟩)∧
    (∀a0 u y w q r,D6 n a0 u y w q=some r→Aw Tryz.prog Tryz.f84 [1,1,0,1,0,0,1,0,0,1,1,0,0,1,0,0,1,1,1] (.bool r) ⟨[(0,.rop [.ro (List.map Agent.ds a0.agents)] 0),(3,.int .i64 u),(4,.rop [.int .i64 w.kind,.int .i64 w.level,.int .i64 w.value,.ro (List.map AY w.data),.ro (List.map Port.ds w.ports)] 0),(5,.int .i64 y),(76,.bool q)],[],[]⟩):=by
 induction n with
 |zero=>exact⟨(fun _ _ _ h=>by rw [Dp] at h; cases h),(fun _ _ _ _ _ h=>by rw [D5] at h; cases h),(fun _ _ _ _ _ _ h=>by rw [D6] at h; cases h)⟩
 | succ n ih=>
  obtain⟨ih0,ih1,ih2⟩:=ih
  refine⟨?_,?_,?_⟩
  ·intro a0 u r h
   rw [Dp] at h
   refine AN rfl rfl (Z ?_)
   refine Ad (Z ?_)
   refine AB h (fun h=>Z ?_) (fun h=>Z ?_)
   ·refine AF ?_
    replace h:=AD h; obtain⟨w,g,h⟩:=h
    refine AM g (Agent.ds_len _) (Z ?_)
    exact loF (ih1 a0 u w 0 _ h) [] []
   ·refine AF ?_
    cases h
    simp only [go_sem]
  ·intro a0 u w y r h
   rw [D5] at h
   refine AN rfl rfl (Z ?_)
   refine Ad (Z ?_)
   refine AB h (fun h=>Z ?_) (fun h=>Z ?_)
   ·refine AF ?_
    refine AF ?_
    replace h:=AD h; obtain⟨j,k,h⟩:=h
    refine AM k (Port.ds_len _) (Z ?_)
    refine AF ?_
    refine AX [] .fin (by kernel_rfl) (Z ?_)
    refine AB h (fun h=>Z ?_) (fun h=>Z ?_)
    ·exact AT (ih2 a0 u y w true _ h) [] []
    ·replace h:=AD h; obtain⟨b,d,h⟩:=h
     refine AI (Si _ _ _ d) (Z ?_)
     refine AB h (fun h=>Z ?_) (fun h=>Z ?_)
     ·exact AT (ih2 a0 u y w true _ h) [] []
     ·replace h:=AD h; obtain⟨c,e,h⟩:=h
      refine AM e (Agent.ds_len _) (Z ?_)
      replace h:=AD h; obtain⟨i,l,h⟩:=h
      refine AM l (Port.ds_len _) (Z ?_)
      exact AT (ih2 a0 u y w (!(decide (i.agent=u)&&decide (i.slot=y))) _ h) [] []
   ·refine AF ?_
    exact lpF (ih0 a0 (IntKind.i64.wrap (u+1)) _ h) [] []
  ·intro a0 u y w q r h
   rw [D6] at h
   refine AN rfl rfl (Z ?_)
   refine AB h (fun h=>Z ?_) (fun h=>Z ?_)
   ·cases h
    simp only [go_sem]
   ·refine AF ?_
    exact lpF (ih1 a0 u w (IntKind.i64.wrap (y+1)) _ h) [] []
theorem Qr (n:Nat):(∀a0 u r,Dp n a0 u=some r→Aw Tryz.prog Tryz.f84 [1,1,0,1,0] (.bool r) ⟨[(0,.rop [.ro (List.map Agent.ds a0.agents)] 0),(3,.int .i64 u)],[],[]⟩):=(QR n).1
theorem QF (a0 r) (h:Ji a0=some r):AC Tryz.prog 84 [.rop (Net.avs a0) 0] (.bool r):=by
 unfold Ji at h
 refine acF Tryz.func84 mixed (h:=Z ?_)
 replace h:=AD h; obtain⟨u,w,h⟩:=h
 refine AI (QQ _ _ w) (Z ?_)
 refine AF ?_
 refine AB h (fun h=>Z ?_) (fun h=>Z ?_)
 ·cases h
  simp only [go_sem]
 ·refine AF ?_
  exact loF (Qr fuel a0 0 _ h) [] []
theorem HR (n:Nat):(∀ (a0:List Net) (u:Int) (f1:(Net→Option Bool)) (g1:FuncId) (c1:List AV) (s1:Still c1) (h1:∀ (y0:Net) (q:Bool),f1 y0=some q→AC Tryz.prog g1 (.agg (Net.avs y0)::c1) (.bool q)) (r:Int),BB n a0 u f1=some r→Aw Tryz.prog Tryz.f196 [1,0,1,0] (.int .i64 r) ⟨[(0,.ro (List.map Net.ds a0)),(1,.fn g1 c1),(7,.int .i64 ((List.length a0:Nat):Int)),(8,.int .i64 u)],[],[]⟩):=by
 induction n with
 |zero=>exact((fun _ _ _ _ _ _ _ _ h=>by rw [BB] at h; cases h))
 | succ n ih=>
  have ih0:=ih
  ·intro a0 u f1 g1 c1 s1 h1 r h
   rw [BB] at h
   refine AN rfl rfl ?_
   try simp only [go_sem,s1.k,s1.r,s1.c,s1.p]
   refine Ad ?_
   try simp only [go_sem,s1.k,s1.r,s1.c,s1.p]
   refine AB h (fun h=>?_) (fun h=>?_)
   ·try simp only [go_sem,s1.k,s1.r,s1.c,s1.p]
    refine FD ?_
    try simp only [go_sem,s1.k,s1.r,s1.c,s1.p]
    replace h:=AD h; obtain⟨w,y,h⟩:=h
    refine AM y (Net.ds_len _) ?_
    try simp only [go_sem,s1.k,s1.r,s1.c,s1.p]
    replace h:=AD h; obtain⟨g,j,h⟩:=h
    refine AI (h1 _ _ j) ?_
    try simp only [go_sem,s1.k,s1.r,s1.c,s1.p]
    refine FD ?_
    try simp only [go_sem,s1.k,s1.r,s1.c,s1.p]
    refine AB h (fun h=>?_) (fun h=>?_)
    ·try simp only [go_sem,s1.k,s1.r,s1.c,s1.p]
     cases h
     simp only [go_sem,s1.k,s1.r,s1.c,s1.p]
    ·try simp only [go_sem,s1.k,s1.r,s1.c,s1.p]
     refine FD ?_
     try simp only [go_sem,s1.k,s1.r,s1.c,s1.p]
     refine RP (D8 rfl rfl (ih0 a0 (IntKind.i64.wrap (u+1)) f1 g1 c1 s1 h1 _ h):) (.one ⟨_,.done _,[],[],?_⟩)
     try simp only [go_sem,s1.k,s1.r,s1.c,s1.p]
   ·try simp only [go_sem,s1.k,s1.r,s1.c,s1.p]
    refine FD ?_
    try simp only [go_sem,s1.k,s1.r,s1.c,s1.p]
    cases h
    simp only [go_sem,s1.k,s1.r,s1.c,s1.p]
theorem Ir (a0:List Net) (f1:(Net→Option Bool)) (g1:FuncId) (c1:List AV) (s1:Still c1) (h1:∀ (y0:Net) (q:Bool),f1 y0=some q→AC Tryz.prog g1 (.agg (Net.avs y0)::c1) (.bool q)) (r:Int) (h:DK a0 f1=some r):AC Tryz.prog 196 [.ro (List.map Net.ds a0),.fn g1 c1] (.int .i64 r):=by
 unfold DK at h
 refine acF Tryz.func196 mixed (h:=?_)
 try simp only [go_sem,s1.k,s1.r,s1.c,s1.p]
 refine DT (D8 rfl rfl (HR fuel a0 0 f1 g1 c1 s1 h1 _ h):) (.one ⟨_,.done _,[],[],?_⟩)
 try simp only [go_sem,s1.k,s1.r,s1.c,s1.p]
theorem HT (a0:List Net) (f1:(Net→Option Bool)) (g1:FuncId) (c1:List AV) (s1:Still c1) (h1:∀ (y0:Net) (q:Bool),f1 y0=some q→AC Tryz.prog g1 (.agg (Net.avs y0)::c1) (.bool q)) (r:Bool) (h:Bu a0 f1=some r):AC Tryz.prog 136 [.ro (List.map Net.ds a0),.fn g1 c1] (.bool r):=by
 unfold Bu at h
 refine acF Tryz.func136 mixed (h:=?_)
 try simp only [go_sem,s1.k,s1.r,s1.c,s1.p]
 replace h:=AD h; obtain⟨u,w,h⟩:=h
 refine AI (Ir _ _ g1 c1 s1 h1 _ w) ?_
 try simp only [go_sem,s1.k,s1.r,s1.c,s1.p]
 refine FD ?_
 try simp only [go_sem,s1.k,s1.r,s1.c,s1.p]
 cases h
 simp only [go_sem,s1.k,s1.r,s1.c,s1.p]
theorem KF (a0 r) (h:EG a0=some r):AC Tryz.prog 137 [.agg (Net.avs a0)] (.bool r):=by
 unfold EG at h
 refine acF Tryz.func137 mixed (h:=Z ?_)
 replace h:=AD h; obtain⟨u,w,h⟩:=h
 refine AI (Lt _ _ w) (Z ?_)
 refine AF ?_
 cases h
 simp only [go_sem]
theorem Lj (a0 r) (h:Dw a0=some r):AC Tryz.prog 78 [.ro (List.map Net.ds a0)] (.bool r):=by
 unfold Dw at h
 refine acF Tryz.func78 mixed (h:=Z ?_)
 refine AB h (fun h=>Z ?_) (fun h=>Z ?_)
 ·replace h:=AD h; obtain⟨u,w,h⟩:=h
  refine AI (HT _ _ 137 [] (Still.of rfl) (fun y0 q hq=>KF y0  q hq) _ w) (Z ?_)
  refine AF ?_
  cases h
  simp only [go_sem]
 ·refine AF ?_
  cases h
  simp only [go_sem]
theorem Og (n:Nat):(∀a0 u r,EH n a0 u=some r→Aw Tryz.prog Tryz.f73 [1,1,0,1,0] (.bool r) ⟨[(0,.ro (List.map Net.ds a0)),(3,.int .i64 u)],[],[]⟩):=by
 induction n with
 |zero=>exact((fun _ _ _ h=>by rw [EH] at h; cases h))
 | succ n ih=>
  have ih0:=ih
  ·intro a0 u r h
   rw [EH] at h
   refine AN rfl rfl (Z ?_)
   refine Ad (Z ?_)
   refine AB h (fun h=>Z ?_) (fun h=>Z ?_)
   ·refine AF ?_
    replace h:=AD h; obtain⟨w,y,h⟩:=h
    refine AM y (Net.ds_len _) (Z ?_)
    replace h:=AD h; obtain⟨q,g,h⟩:=h
    refine AI (QF _ _ g) (Z ?_)
    refine AF ?_
    refine AB h (fun h=>Z ?_) (fun h=>Z ?_)
    ·cases h
     simp only [go_sem]
    ·refine AF ?_
     exact lpF (ih0 a0 (IntKind.i64.wrap (u+1)) _ h) [] []
   ·refine AF ?_
    cases h
    simp only [go_sem]
theorem SU (a0 r) (h:I5 a0=some r):AC Tryz.prog 73 [.ro (List.map Net.ds a0)] (.bool r):=by
 unfold I5 at h
 refine acF Tryz.func73 mixed (h:=Z ?_)
 refine AB h (fun h=>Z ?_) (fun h=>Z ?_)
 ·cases h
  simp only [go_sem]
 ·refine AF ?_
  exact loF (Og fuel a0 0 _ h) [] []
end Go.Proofs.YtckcfdggbbabfaaGreat.Ab
