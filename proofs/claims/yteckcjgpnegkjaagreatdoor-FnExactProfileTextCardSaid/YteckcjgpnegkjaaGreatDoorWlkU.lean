/-
 The functions do what their models say. Printed by wip/ab/gen.py.
-/
import Derived.Test.YteckcjgpnegkjaaGreatDoorModU
import Derived.Test.YteckcjgpnegkjaaGreatDoorTi2
import Derived.Test.YteckcjgpnegkjaaGreatDoorWlk
namespace Go.Proofs.YteckcjgpnegkjaaGreatDoor.Ab
set_option linter.defProp false
set_option linter.unusedVariables false
set_option linter.unusedSimpArgs false
set_option maxRecDepth 20000
set_option maxHeartbeats 4000000
open Go.RowKit
theorem T7 (a0 a1 r) (h:Jl a0 a1=some r):AC Tryz.prog 102 [.ro (a0.map Port.ds),.int .i64 a1] (.int .i64 r):=by
 unfold Jl at h
 refine acF Tryz.func102 mixed (h:=Z ?_)
 refine AD h (fun h=>Z ?_) (fun h=>Z ?_)
 ·cases h
  simp only [go_sem]
 ·refine AF ?_
  cases h
  simp only [go_sem]
theorem T8 (a0 a1 r) (h:H7 a0 a1=some r):AC Tryz.prog 51 [.agg (Agent.avs a0),.int .i64 a1] (.int .i64 r):=by
 unfold H7 at h
 refine acF Tryz.func51 mixed (h:=Z ?_)
 replace h:=AB h; obtain⟨u,w,h⟩:=h
 refine AI (Ry _ _ _ w) (Z ?_)
 refine AF ?_
 refine AD h (fun h=>Z ?_) (fun h=>Z ?_)
 ·cases h
  simp only [go_sem]
 ·refine AF ?_
  replace h:=AB h; obtain⟨y,q,h⟩:=h
  refine AI (T7 _ _ _ q) (Z ?_)
  refine AF ?_
  refine AD h (fun h=>Z ?_) (fun h=>Z ?_)
  ·cases h
   simp only [go_sem]
  ·refine AF ?_
   cases h
   simp only [go_sem]
theorem PC (n:Nat):(∀a0 u w r,Dv n a0 u w=some r→Aq Tryz.prog Tryz.f21 [1,1,1,0,1,0] (.int .i64 r) ⟨[(0,.ro (a0.map Agent.ds)),(1,.int .i64 u),(5,.int .i64 w)],[],[]⟩):=by
 induction n with
 |zero=>exact((fun _ _ _ _ h=>by rw [Dv] at h; cases h))
 | succ n ih=>
  have ih0:=ih
  ·intro a0 u w r h
   rw [Dv] at h
   refine AO rfl rfl (Z ?_)
   refine AZ (Z ?_)
   refine AD h (fun h=>Z ?_) (fun h=>Z ?_)
   ·refine AF ?_
    replace h:=AB h; obtain⟨y,q,h⟩:=h
    refine AM q (Agent.ds_len _) (Z ?_)
    replace h:=AB h; obtain⟨g,j,h⟩:=h
    refine AI (T8 _ _ _ j) (Z ?_)
    refine AF ?_
    refine AD h (fun h=>Z ?_) (fun h=>Z ?_)
    ·cases h
     simp only [go_sem]
    ·refine AF ?_
     exact lpF (ih0 a0 g (IntKind.i64.wrap (w+1)) _ h) [] []
   ·refine AF ?_
    cases h
    simp only [go_sem]
theorem R7 (a0 a1 r) (h:IZ a0 a1=some r):AC Tryz.prog 21 [.ro (a0.map Agent.ds),.int .i64 a1] (.int .i64 r):=by
 unfold IZ at h
 refine acF Tryz.func21 mixed (h:=Z ?_)
 refine AD h (fun h=>Z ?_) (fun h=>Z ?_)
 ·cases h
  simp only [go_sem]
 ·refine AF ?_
  exact loF (PC fuel a0 (IntKind.i64.wrap (a1 - (a0.length:Int))) 0 _ h) [] []
theorem RY (a0 a1 r) (h:KN a0 a1=some r):AC Tryz.prog 6 [.agg (Net.avs a0),.int .i64 a1] (.int .i64 r):=by
 unfold KN at h
 refine acF Tryz.func6 mixed (h:=Z ?_)
 replace h:=AB h; obtain⟨u,w,h⟩:=h
 refine AI (R7 _ _ _ w) (Z ?_)
 refine AF ?_
 refine AD h (fun h=>Z ?_) (fun h=>Z ?_)
 ·cases h
  simp only [go_sem]
 ·refine AF ?_
  cases h
  simp only [go_sem]
theorem Rb (n:Nat):(∀a0 u w r,FC n a0 u w=some r→Aq Tryz.prog Tryz.f5 [1,1,1,0,1,0] (.int .i64 r) ⟨[(0,.ro (a0.map Net.ds)),(1,.int .i64 u),(5,.int .i64 w)],[],[]⟩):=by
 induction n with
 |zero=>exact((fun _ _ _ _ h=>by rw [FC] at h; cases h))
 | succ n ih=>
  have ih0:=ih
  ·intro a0 u w r h
   rw [FC] at h
   refine AO rfl rfl (Z ?_)
   refine AZ (Z ?_)
   refine AD h (fun h=>Z ?_) (fun h=>Z ?_)
   ·refine AF ?_
    replace h:=AB h; obtain⟨y,q,h⟩:=h
    refine AM q (Net.ds_len _) (Z ?_)
    replace h:=AB h; obtain⟨g,j,h⟩:=h
    refine AI (RY _ _ _ j) (Z ?_)
    refine AF ?_
    refine AD h (fun h=>Z ?_) (fun h=>Z ?_)
    ·cases h
     simp only [go_sem]
    ·refine AF ?_
     exact lpF (ih0 a0 g (IntKind.i64.wrap (w+1)) _ h) [] []
   ·refine AF ?_
    cases h
    simp only [go_sem]
theorem WD (a0 a1 r) (h:LS a0 a1=some r):AC Tryz.prog 5 [.ro (a0.map Net.ds),.int .i64 a1] (.int .i64 r):=by
 unfold LS at h
 refine acF Tryz.func5 mixed (h:=Z ?_)
 refine AD h (fun h=>Z ?_) (fun h=>Z ?_)
 ·cases h
  simp only [go_sem]
 ·refine AF ?_
  exact loF (Rb fuel a0 (IntKind.i64.wrap (a1 - (a0.length:Int))) 0 _ h) [] []
theorem WF (a0 r) (h:LT a0=some r):AC Tryz.prog 151 [.agg (Port.avs a0)] (.agg (Port.rv r)):=by
 unfold LT at h
 refine acF Tryz.func151 mixed (h:=Z ?_)
 refine AF ?_
 refine AF ?_
 cases h
 simp only [go_sem]
theorem Py (n:Nat):(∀a0 u w r,ET n a0 u w=some r→Aq Tryz.prog Tryz.f115 [1,1,0,1,0] (.ow (some 2) (r.map Port.ds)) ⟨[(0,.ro (a0.map Port.ds)),(3,.own 1000001000),(4,.int .i64 w)],[(1000001000,some ⟨List.map Port.ds u,some 2,0,false⟩)],[]⟩):=by
 induction n with
 |zero=>exact((fun _ _ _ _ h=>by rw [ET] at h; cases h))
 | succ n ih=>
  have ih0:=ih
  ·intro a0 u w r h
   rw [ET] at h
   refine AO rfl rfl (Z ?_)
   refine AZ (Z ?_)
   refine AD h (fun h=>Z ?_) (fun h=>Z ?_)
   ·refine AF ?_
    replace h:=AB h; obtain⟨y,q,h⟩:=h
    refine AM q (Port.ds_len _) (Z ?_)
    replace h:=AB h; obtain⟨g,j,h⟩:=h
    refine AI (WF _ _ j) (Z ?_)
    replace h:=AB h; obtain⟨k,b,h⟩:=h
    refine AM b (Port.ds_len _) (Z ?_)
    replace h:=AB h; obtain⟨d,c,h⟩:=h
    refine Ac (AX b) (Z ?_)
    refine A6 (d.map Port.ds) (by rw [← BW c]; simp only [List.map_set,go_sem,Port.ds_eq]) (Z ?_)
    refine AF ?_
    exact lpF (ih0 a0 d (IntKind.i64.wrap (w+1)) _ h) [(1000001000,1000001000)] []
   ·refine AF ?_
    cases h
    simp only [go_sem]
theorem T9 (a0 r) (h:Jm a0=some r):AC Tryz.prog 115 [.ro (a0.map Port.ds)] (.ow (some 2) (r.map Port.ds)):=by
 unfold Jm at h
 refine acF Tryz.func115 mixed (h:=Z ?_)
 replace h:=AB h; obtain⟨u,w,h⟩:=h
 have hq_:=Fc w
 obtain⟨hv2002a,hv2002b,hv2002c⟩:=hq_
 refine Al (by refine⟨?_,?_,?_⟩ <;> omega) (Z ?_)
 refine A6 (u.map Port.ds) (by rw [← hv2002c]; simp only [List.map_replicate,go_sem,Port.ds_eq]) (Z ?_)
 refine AF ?_
 exact loF (Py fuel a0 u 0 _ h) [(1000001000,32032)] []
theorem UA (a0 r) (h:H8 a0=some r):AC Tryz.prog 71 [.agg (Agent.avs a0)] (.agg (Agent.rv r)):=by
 unfold H8 at h
 refine acF Tryz.func71 mixed (h:=Z ?_)
 refine AF ?_
 refine AF ?_
 replace h:=AB h; obtain⟨u,w,h⟩:=h
 refine AI (Rz _ _ w) (Z ?_)
 refine AF ?_
 replace h:=AB h; obtain⟨y,q,h⟩:=h
 refine AI (T9 _ _ q) (Z ?_)
 refine AF ?_
 cases h
 simp only [go_sem]
theorem PD (n:Nat):(∀a0 u w r,Dw n a0 u w=some r→Aq Tryz.prog Tryz.f29 [1,1,0,1,0] (.ow (some 5) (r.map Agent.ds)) ⟨[(0,.ro (a0.map Agent.ds)),(3,.own 1000001000),(4,.int .i64 w)],[(1000001000,some ⟨List.map Agent.ds u,some 5,0,false⟩)],[]⟩):=by
 induction n with
 |zero=>exact((fun _ _ _ _ h=>by rw [Dw] at h; cases h))
 | succ n ih=>
  have ih0:=ih
  ·intro a0 u w r h
   rw [Dw] at h
   refine AO rfl rfl (Z ?_)
   refine AZ (Z ?_)
   refine AD h (fun h=>Z ?_) (fun h=>Z ?_)
   ·refine AF ?_
    replace h:=AB h; obtain⟨y,q,h⟩:=h
    refine AM q (Agent.ds_len _) (Z ?_)
    replace h:=AB h; obtain⟨g,j,h⟩:=h
    refine AI (UA _ _ j) (Z ?_)
    replace h:=AB h; obtain⟨k,b,h⟩:=h
    refine AM b (Agent.ds_len _) (Z ?_)
    replace h:=AB h; obtain⟨d,c,h⟩:=h
    refine Ac (AX b) (Z ?_)
    refine A6 (d.map Agent.ds) (by rw [← BW c]; simp only [List.map_set,go_sem,Agent.ds_eq]) (Z ?_)
    refine AF ?_
    exact lpF (ih0 a0 d (IntKind.i64.wrap (w+1)) _ h) [(1000001000,1000001000)] []
   ·refine AF ?_
    cases h
    simp only [go_sem]
theorem R8 (a0 r) (h:Ia a0=some r):AC Tryz.prog 29 [.ro (a0.map Agent.ds)] (.ow (some 5) (r.map Agent.ds)):=by
 unfold Ia at h
 refine acF Tryz.func29 mixed (h:=Z ?_)
 replace h:=AB h; obtain⟨u,w,h⟩:=h
 have hq_:=Fc w
 obtain⟨hv2002a,hv2002b,hv2002c⟩:=hq_
 refine Al (by refine⟨?_,?_,?_⟩ <;> omega) (Z ?_)
 refine A6 (u.map Agent.ds) (by rw [← hv2002c]; simp only [List.map_replicate,go_sem,Agent.ds_eq]) (Z ?_)
 refine AF ?_
 exact loF (PD fuel a0 u 0 _ h) [(1000001000,32032)] []
theorem Kb (a0 r) (h:G2 a0=some r):AC Tryz.prog 9 [.agg (Net.avs a0)] (.agg (Net.rv r)):=by
 unfold G2 at h
 refine acF Tryz.func9 mixed (h:=Z ?_)
 refine AF ?_
 refine AF ?_
 replace h:=AB h; obtain⟨u,w,h⟩:=h
 refine AI (R8 _ _ w) (Z ?_)
 refine AF ?_
 cases h
 simp only [go_sem]
theorem Rc (n:Nat):(∀a0 u w r,FD n a0 u w=some r→Aq Tryz.prog Tryz.f8 [1,1,0,1,0] (.ow (some 1) (r.map Net.ds)) ⟨[(0,.ro (a0.map Net.ds)),(3,.own 1000001000),(4,.int .i64 w)],[(1000001000,some ⟨List.map Net.ds u,some 1,0,false⟩)],[]⟩):=by
 induction n with
 |zero=>exact((fun _ _ _ _ h=>by rw [FD] at h; cases h))
 | succ n ih=>
  have ih0:=ih
  ·intro a0 u w r h
   rw [FD] at h
   refine AO rfl rfl (Z ?_)
   refine AZ (Z ?_)
   refine AD h (fun h=>Z ?_) (fun h=>Z ?_)
   ·refine AF ?_
    replace h:=AB h; obtain⟨y,q,h⟩:=h
    refine AM q (Net.ds_len _) (Z ?_)
    replace h:=AB h; obtain⟨g,j,h⟩:=h
    refine AI (Kb _ _ j) (Z ?_)
    replace h:=AB h; obtain⟨k,b,h⟩:=h
    refine AM b (Net.ds_len _) (Z ?_)
    replace h:=AB h; obtain⟨d,c,h⟩:=h
    refine Ac (AX b) (Z ?_)
    refine A6 (d.map Net.ds) (by rw [← BW c]; simp only [List.map_set,go_sem,Net.ds_eq]) (Z ?_)
    refine AF ?_
    exact lpF (ih0 a0 d (IntKind.i64.wrap (w+1)) _ h) [(1000001000,1000001000)] []
   ·refine AF ?_
    cases h
    simp only [go_sem]
theorem Lx (a0 r) (h:HL a0=some r):AC Tryz.prog 8 [.ro (a0.map Net.ds)] (.ow (some 1) (r.map Net.ds)):=by
 unfold HL at h
 refine acF Tryz.func8 mixed (h:=Z ?_)
 replace h:=AB h; obtain⟨u,w,h⟩:=h
 have hq_:=Fc w
 obtain⟨hv2002a,hv2002b,hv2002c⟩:=hq_
 refine Al (by refine⟨?_,?_,?_⟩ <;> omega) (Z ?_)
 refine A6 (u.map Net.ds) (by rw [← hv2002c]; simp only [List.map_replicate,go_sem,Net.ds_eq]) (Z ?_)
 refine AF ?_
 exact loF (Rc fuel a0 u 0 _ h) [(1000001000,32032)] []
theorem WG (a0 a1 r) (h:Jn a0 a1=some r):AC Tryz.prog 165 [.agg (Port.avs a0),.agg (Port.avs a1)] (.bool r):=by
 unfold Jn at h
 refine acF Tryz.func165 mixed (h:=Z ?_)
 refine AD h (fun h=>Z ?_) (fun h=>Z ?_)
 ·cases h
  simp only [go_sem]
 ·refine AF ?_
  refine AD h (fun h=>Z ?_) (fun h=>Z ?_)
  ·cases h
   simp only [go_sem]
  ·refine AF ?_
   cases h
   simp only [go_sem]
theorem Pz (n:Nat):(∀a0 a1 u r,EU n a0 a1 u=some r→Aq Tryz.prog Tryz.f134 [1,1,0,1,0] (.bool r) ⟨[(0,.ro (a0.map Port.ds)),(1,.ro (a1.map Port.ds)),(5,.int .i64 u)],[],[]⟩):=by
 induction n with
 |zero=>exact((fun _ _ _ _ h=>by rw [EU] at h; cases h))
 | succ n ih=>
  have ih0:=ih
  ·intro a0 a1 u r h
   rw [EU] at h
   refine AO rfl rfl (Z ?_)
   refine AZ (Z ?_)
   refine AD h (fun h=>Z ?_) (fun h=>Z ?_)
   ·refine AF ?_
    refine Aa [] .fin (by kernel_rfl) (Z ?_)
    replace h:=AB h; obtain⟨w,y,h⟩:=h
    refine AM y (Port.ds_len _) (Z ?_)
    replace h:=AB h; obtain⟨q,g,h⟩:=h
    refine AM g (Port.ds_len _) (Z ?_)
    replace h:=AB h; obtain⟨j,k,h⟩:=h
    refine AI (WG _ _ _ k) (Z ?_)
    refine AF ?_
    refine AD h (fun h=>Z ?_) (fun h=>Z ?_)
    ·cases h
     simp only [go_sem]
    ·refine AF ?_
     exact lpF (ih0 a0 a1 (IntKind.i64.wrap (u+1)) _ h) [] []
   ·refine AF ?_
    cases h
    simp only [go_sem]
theorem UB (a0 a1 r) (h:Jo a0 a1=some r):AC Tryz.prog 134 [.ro (a0.map Port.ds),.ro (a1.map Port.ds)] (.bool r):=by
 unfold Jo at h
 refine acF Tryz.func134 mixed (h:=Z ?_)
 refine AD h (fun h=>Z ?_) (fun h=>Z ?_)
 ·cases h
  simp only [go_sem]
 ·refine AF ?_
  exact loF (Pz fuel a0 a1 0 _ h) [] []
theorem UC (a0 a1 r) (h:H9 a0 a1=some r):AC Tryz.prog 91 [.agg (Agent.avs a0),.agg (Agent.avs a1)] (.bool r):=by
 unfold H9 at h
 refine acF Tryz.func91 mixed (h:=Z ?_)
 refine AD h (fun h=>Z ?_) (fun h=>Z ?_)
 ·cases h
  simp only [go_sem]
 ·refine AF ?_
  refine AD h (fun h=>Z ?_) (fun h=>Z ?_)
  ·cases h
   simp only [go_sem]
  ·refine AF ?_
   refine AD h (fun h=>Z ?_) (fun h=>Z ?_)
   ·cases h
    simp only [go_sem]
   ·refine AF ?_
    replace h:=AB h; obtain⟨u,w,h⟩:=h
    refine AI (R0 _ _ _ w) (Z ?_)
    refine AF ?_
    refine AD h (fun h=>Z ?_) (fun h=>Z ?_)
    ·cases h
     simp only [go_sem]
    ·refine AF ?_
     replace h:=AB h; obtain⟨y,q,h⟩:=h
     refine AI (UB _ _ _ q) (Z ?_)
     refine AF ?_
     refine AD h (fun h=>Z ?_) (fun h=>Z ?_)
     ·cases h
      simp only [go_sem]
     ·refine AF ?_
      cases h
      simp only [go_sem]
theorem PE (n:Nat):(∀a0 a1 u r,Dx n a0 a1 u=some r→Aq Tryz.prog Tryz.f37 [1,1,0,1,0] (.bool r) ⟨[(0,.ro (a0.map Agent.ds)),(1,.ro (a1.map Agent.ds)),(5,.int .i64 u)],[],[]⟩):=by
 induction n with
 |zero=>exact((fun _ _ _ _ h=>by rw [Dx] at h; cases h))
 | succ n ih=>
  have ih0:=ih
  ·intro a0 a1 u r h
   rw [Dx] at h
   refine AO rfl rfl (Z ?_)
   refine AZ (Z ?_)
   refine AD h (fun h=>Z ?_) (fun h=>Z ?_)
   ·refine AF ?_
    refine Aa [] .fin (by kernel_rfl) (Z ?_)
    replace h:=AB h; obtain⟨w,y,h⟩:=h
    refine AM y (Agent.ds_len _) (Z ?_)
    replace h:=AB h; obtain⟨q,g,h⟩:=h
    refine AM g (Agent.ds_len _) (Z ?_)
    replace h:=AB h; obtain⟨j,k,h⟩:=h
    refine AI (UC _ _ _ k) (Z ?_)
    refine AF ?_
    refine AD h (fun h=>Z ?_) (fun h=>Z ?_)
    ·cases h
     simp only [go_sem]
    ·refine AF ?_
     exact lpF (ih0 a0 a1 (IntKind.i64.wrap (u+1)) _ h) [] []
   ·refine AF ?_
    cases h
    simp only [go_sem]
theorem R9 (a0 a1 r) (h:Ib a0 a1=some r):AC Tryz.prog 37 [.ro (a0.map Agent.ds),.ro (a1.map Agent.ds)] (.bool r):=by
 unfold Ib at h
 refine acF Tryz.func37 mixed (h:=Z ?_)
 refine AD h (fun h=>Z ?_) (fun h=>Z ?_)
 ·cases h
  simp only [go_sem]
 ·refine AF ?_
  exact loF (PE fuel a0 a1 0 _ h) [] []
theorem RX (a0 a1 r) (h:I7 a0 a1=some r):AC Tryz.prog 14 [.agg (Net.avs a0),.agg (Net.avs a1)] (.bool r):=by
 unfold I7 at h
 refine acF Tryz.func14 mixed (h:=Z ?_)
 replace h:=AB h; obtain⟨u,w,h⟩:=h
 refine AI (R9 _ _ _ w) (Z ?_)
 refine AF ?_
 refine AD h (fun h=>Z ?_) (fun h=>Z ?_)
 ·cases h
  simp only [go_sem]
 ·refine AF ?_
  cases h
  simp only [go_sem]
theorem Rd (n:Nat):(∀a0 a1 u r,FE n a0 a1 u=some r→Aq Tryz.prog Tryz.f13 [1,1,0,1,0] (.bool r) ⟨[(0,.ro (a0.map Net.ds)),(1,.ro (a1.map Net.ds)),(5,.int .i64 u)],[],[]⟩):=by
 induction n with
 |zero=>exact((fun _ _ _ _ h=>by rw [FE] at h; cases h))
 | succ n ih=>
  have ih0:=ih
  ·intro a0 a1 u r h
   rw [FE] at h
   refine AO rfl rfl (Z ?_)
   refine AZ (Z ?_)
   refine AD h (fun h=>Z ?_) (fun h=>Z ?_)
   ·refine AF ?_
    refine Aa [] .fin (by kernel_rfl) (Z ?_)
    replace h:=AB h; obtain⟨w,y,h⟩:=h
    refine AM y (Net.ds_len _) (Z ?_)
    replace h:=AB h; obtain⟨q,g,h⟩:=h
    refine AM g (Net.ds_len _) (Z ?_)
    replace h:=AB h; obtain⟨j,k,h⟩:=h
    refine AI (RX _ _ _ k) (Z ?_)
    refine AF ?_
    refine AD h (fun h=>Z ?_) (fun h=>Z ?_)
    ·cases h
     simp only [go_sem]
    ·refine AF ?_
     exact lpF (ih0 a0 a1 (IntKind.i64.wrap (u+1)) _ h) [] []
   ·refine AF ?_
    cases h
    simp only [go_sem]
theorem WC (a0 a1 r) (h:Jj a0 a1=some r):AC Tryz.prog 13 [.ro (a0.map Net.ds),.ro (a1.map Net.ds)] (.bool r):=by
 unfold Jj at h
 refine acF Tryz.func13 mixed (h:=Z ?_)
 refine AD h (fun h=>Z ?_) (fun h=>Z ?_)
 ·cases h
  simp only [go_sem]
 ·refine AF ?_
  exact loF (Rd fuel a0 a1 0 _ h) [] []
theorem Ls (a0 r) (h:HI a0=some r):AC Tryz.prog 95 [.ro (a0.map AS)] (.ow (some 1) (r.map AS)):=by
 unfold HI at h
 refine acF Tryz.func95 mixed (h:=Z ?_)
 replace h:=AB h; obtain⟨u,w,h⟩:=h
 have hq_:=Av w
 obtain⟨hv2002a,hv2002b⟩:=hq_
 refine Cz false (Z ?_)
 refine Al (FM (by intro x; exact⟨rfl,by simp [go_sem,D.flat]⟩) _) (Z ?_)
 refine Al (by refine⟨?_,?_⟩ <;> (try simp only [List.length_map,List.length_append,List.length_cons,List.length_nil] at*) <;> (try unfold maxLen) <;> omega) (Z ?_)
 refine A6 (u.map AS) (by rw [← hv2002b]; simp only [List.map_append,List.map_cons,List.map_nil,List.nil_append,List.append_nil,go_sem,slD]) (Z ?_)
 refine AF ?_
 cases h
 simp only [go_sem]
theorem DK (a0 r) (h:Bw a0=some r):AC Tryz.prog 56 [.rop (Agent.avs a0) 0] (.agg (Agent.rv r)):=by
 unfold Bw at h
 refine acF Tryz.func56 mixed (h:=Z ?_)
 refine AF ?_
 refine Aa [false,false,false,false,false,false,false,false,false,false,false,false,false,false,false,false,false,false,false,false,false,false,false,false,true] (Tr.sq [24] .fin) (by kernel_rfl) (Z ?_)
 replace h:=AB h; obtain⟨u,w,h⟩:=h
 refine AI (Ls _ _ w) (Z ?_)
 replace h:=AB h; obtain⟨y,q,h⟩:=h
 have hq_:=Av q
 obtain⟨hv2022a,hv2022b⟩:=hq_
 refine Al (by rfl) (Z ?_)
 refine Cz false (Z ?_)
 refine Al (FM (by intro x; exact⟨(Port.ds_len _),by simp [Port.ds_eq,D.flat]⟩) _) (Z ?_)
 refine Al (by refine⟨?_,?_⟩ <;> (try simp only [List.length_map,List.length_append,List.length_cons,List.length_nil] at*) <;> (try unfold maxLen) <;> omega) (Z ?_)
 refine A6 (y.map Port.ds) (by rw [← hv2022b]; simp only [List.nil_append]) (Z ?_)
 refine AF ?_
 cases h
 simp only [go_sem]
theorem JR (n:Nat):(∀ (a0:List Int) (u:Int) (f1:(Int→Option Bool)) (g1:FuncId) (c1:List AV) (s1:Still c1) (h1:∀ (y0:Int) (q:Bool),f1 y0=some q→AC Tryz.prog g1 (fnA c1 [.int .i64 y0]) (.bool q)) (r:Int),Bb n a0 u f1=some r→Aq Tryz.prog Tryz.f155 [1,0,1,0] (.int .i64 r) ⟨[(0,.ro (a0.map AS)),(1,.fn g1 c1),(7,.int .i64 (a0.length:Int)),(8,.int .i64 u)],[],[]⟩):=by
 induction n with
 |zero=>exact((fun _ _ _ _ _ _ _ _ h=>by rw [Bb] at h; cases h))
 | succ n ih=>
  have ih0:=ih
  ·intro a0 u f1 g1 c1 s1 h1 r h
   rw [Bb] at h
   refine AO rfl rfl ?_
   try simp only [go_sem,s1.k,s1.r,s1.c,s1.p,s1.o,s1.f]
   refine AZ ?_
   try simp only [go_sem,s1.k,s1.r,s1.c,s1.p,s1.o,s1.f]
   refine AD h (fun h=>?_) (fun h=>?_)
   ·try simp only [go_sem,s1.k,s1.r,s1.c,s1.p,s1.o,s1.f]
    refine FY ?_
    try simp only [go_sem,s1.k,s1.r,s1.c,s1.p,s1.o,s1.f]
    replace h:=AB h; obtain⟨w,y,h⟩:=h
    refine AM y rfl ?_
    try simp only [go_sem,s1.k,s1.r,s1.c,s1.p,s1.o,s1.f]
    replace h:=AB h; obtain⟨g,j,h⟩:=h
    refine AI (h1 _ _ j) ?_
    try simp only [go_sem,s1.k,s1.r,s1.c,s1.p,s1.o,s1.f]
    refine FY ?_
    try simp only [go_sem,s1.k,s1.r,s1.c,s1.p,s1.o,s1.f]
    refine AD h (fun h=>?_) (fun h=>?_)
    ·try simp only [go_sem,s1.k,s1.r,s1.c,s1.p,s1.o,s1.f]
     cases h
     simp only [go_sem,s1.k,s1.r,s1.c,s1.p,s1.o,s1.f]
    ·try simp only [go_sem,s1.k,s1.r,s1.c,s1.p,s1.o,s1.f]
     refine FY ?_
     try simp only [go_sem,s1.k,s1.r,s1.c,s1.p,s1.o,s1.f]
     refine PU (DU rfl rfl (ih0 a0 (IntKind.i64.wrap (u+1)) f1 g1 c1 s1 h1 _ h):) (.one ⟨_,.done _,[],[],?_⟩)
     try simp only [go_sem,s1.k,s1.r,s1.c,s1.p,s1.o,s1.f]
   ·try simp only [go_sem,s1.k,s1.r,s1.c,s1.p,s1.o,s1.f]
    refine FY ?_
    try simp only [go_sem,s1.k,s1.r,s1.c,s1.p,s1.o,s1.f]
    cases h
    simp only [go_sem,s1.k,s1.r,s1.c,s1.p,s1.o,s1.f]
theorem Kr (a0:List Int) (f1:(Int→Option Bool)) (g1:FuncId) (c1:List AV) (s1:Still c1) (h1:∀ (y0:Int) (q:Bool),f1 y0=some q→AC Tryz.prog g1 (fnA c1 [.int .i64 y0]) (.bool q)) (r:Int) (h:EV a0 f1=some r):AC Tryz.prog 155 [.ro (a0.map AS),.fn g1 c1] (.int .i64 r):=by
 unfold EV at h
 refine acF Tryz.func155 mixed (h:=?_)
 try simp only [go_sem,s1.k,s1.r,s1.c,s1.p,s1.o,s1.f]
 refine CF (DU rfl rfl (JR fuel a0 0 f1 g1 c1 s1 h1 _ h):) (.one ⟨_,.done _,[],[],?_⟩)
 try simp only [go_sem,s1.k,s1.r,s1.c,s1.p,s1.o,s1.f]
theorem Fk (a0:List Int) (f1:(Int→Option Bool)) (g1:FuncId) (c1:List AV) (s1:Still c1) (h1:∀ (y0:Int) (q:Bool),f1 y0=some q→AC Tryz.prog g1 (fnA c1 [.int .i64 y0]) (.bool q)) (r:Bool) (h:Ba a0 f1=some r):AC Tryz.prog 124 [.ro (a0.map AS),.fn g1 c1] (.bool r):=by
 unfold Ba at h
 refine acF Tryz.func124 mixed (h:=?_)
 try simp only [go_sem,s1.k,s1.r,s1.c,s1.p,s1.o,s1.f]
 replace h:=AB h; obtain⟨u,w,h⟩:=h
 refine AI (Kr _ _ g1 c1 s1 h1 _ w) ?_
 try simp only [go_sem,s1.k,s1.r,s1.c,s1.p,s1.o,s1.f]
 refine FY ?_
 try simp only [go_sem,s1.k,s1.r,s1.c,s1.p,s1.o,s1.f]
 cases h
 simp only [go_sem,s1.k,s1.r,s1.c,s1.p,s1.o,s1.f]
theorem Lz (a0 r) (h:Ic a0=some r):AC Tryz.prog 187 [.int .i64 a0] (.bool r):=by
 unfold Ic at h
 refine acF Tryz.func187 mixed (h:=Z ?_)
 refine AD h (fun h=>Z ?_) (fun h=>Z ?_)
 ·refine AF ?_
  cases h
  simp only [go_sem]
 ·refine AF ?_
  cases h
  simp only [go_sem]
theorem JN (a0 r) (h:EO a0=some r):AC Tryz.prog 163 [.int .i64 a0] (.bool r):=by
 unfold EO at h
 refine acF Tryz.func163 mixed (h:=Z ?_)
 replace h:=AB h; obtain⟨u,w,h⟩:=h
 refine AI (Lz _ _ w) (Z ?_)
 refine AD h (fun h=>Z ?_) (fun h=>Z ?_)
 ·refine AD h (fun h=>Z ?_) (fun h=>Z ?_)
  ·refine AD h (fun h=>Z ?_) (fun h=>Z ?_)
   ·refine AF ?_
    cases h
    simp only [go_sem]
   ·refine AF ?_
    cases h
    simp only [go_sem]
  ·refine AF ?_
   cases h
   simp only [go_sem]
 ·refine AF ?_
  cases h
  simp only [go_sem]
theorem OC (a0 r) (h:Gn a0=some r):AC Tryz.prog 188 [.int .i64 a0] (.bool r):=by
 unfold Gn at h
 refine acF Tryz.func188 mixed (h:=Z ?_)
 refine AD h (fun h=>Z ?_) (fun h=>Z ?_)
 ·refine AF ?_
  cases h
  simp only [go_sem]
 ·refine AF ?_
  cases h
  simp only [go_sem]
theorem GZ (a0 a1 r) (h:De a0 a1=some r):AC Tryz.prog 166 [.int .i64 a0,.int .i64 a1] (.bool r):=by
 unfold De at h
 refine acF Tryz.func166 mixed (h:=Z ?_)
 replace h:=AB h; obtain⟨u,w,h⟩:=h
 refine AI (Lz _ _ w) (Z ?_)
 refine AD h (fun h=>Z ?_) (fun h=>Z ?_)
 ·refine AD h (fun h=>Z ?_) (fun h=>Z ?_)
  ·refine AF ?_
   cases h
   simp only [go_sem]
  ·replace h:=AB h; obtain⟨y,q,h⟩:=h
   refine AI (JN _ _ q) (Z ?_)
   refine AD h (fun h=>Z ?_) (fun h=>Z ?_)
   ·replace h:=AB h; obtain⟨g,j,h⟩:=h
    refine AI (OC _ _ j) (Z ?_)
    refine AF ?_
    cases h
    simp only [go_sem]
   ·refine AF ?_
    cases h
    simp only [go_sem]
 ·refine AF ?_
  cases h
  simp only [go_sem]
theorem HX (a0:Int) (u:Bool) (r:Int) (h:EW a0 u=some r):Aq Tryz.prog Tryz.f178 [1,0,0,1,1,1] (.int .i64 r) ⟨[(0,.int .i64 a0),(18,.bool u)],[],[]⟩:=by
 unfold EW at h
 refine AO rfl rfl (Z ?_)
 refine AD h (fun h=>Z ?_) (fun h=>Z ?_)
 ·cases h
  simp only [go_sem]
 ·refine AF ?_
  replace h:=AB h; obtain⟨w,y,h⟩:=h
  refine Ac y (Z ?_)
  cases h
  simp only [go_sem]
theorem HY (a0:Int) (a1:Int) (u:Bool) (r:Int) (h:EX a0 a1 u=some r):Aq Tryz.prog Tryz.f178 [1,0,0,1] (.int .i64 r) ⟨[(0,.int .i64 a0),(1,.int .i64 a1),(5,.bool u)],[],[]⟩:=by
 unfold EX at h
 refine AO rfl rfl (Z ?_)
 refine AD h (fun h=>Z ?_) (fun h=>Z ?_)
 ·cases h
  simp only [go_sem]
 ·replace h:=AB h; obtain⟨w,y,h⟩:=h
  refine AI (Lz _ _ y) (Z ?_)
  refine AD h (fun h=>Z ?_) (fun h=>Z ?_)
  ·exact AY (HX a0 true _ h) [] []
  ·refine AD h (fun h=>Z ?_) (fun h=>Z ?_)
   ·exact AY (HX a0 true _ h) [] []
   ·exact AY (HX a0 (!decide (a1=0)) _ h) [] []
theorem UD (a0 a1 r) (h:IA a0 a1=some r):AC Tryz.prog 178 [.int .i64 a0,.int .i64 a1] (.int .i64 r):=by
 unfold IA at h
 refine acF Tryz.func178 mixed (h:=Z ?_)
 refine AD h (fun h=>Z ?_) (fun h=>Z ?_)
 ·refine AD h (fun h=>Z ?_) (fun h=>Z ?_)
  ·exact AY (HY a0 a1 (decide (a1≤3)) _ h) [] []
  ·exact AY (HY a0 a1 false _ h) [] []
 ·exact AY (HY a0 a1 false _ h) [] []
theorem SA (a0 a1 r) (h:Id a0 a1=some r):AC Tryz.prog 179 [.int .i64 a0,.int .i64 a1] (.int .i64 r):=by
 unfold Id at h
 refine acF Tryz.func179 mixed (h:=Z ?_)
 refine AD h (fun h=>Z ?_) (fun h=>Z ?_)
 ·cases h
  simp only [go_sem]
 ·refine AF ?_
  cases h
  simp only [go_sem]
theorem Kl (a0 r) (h:FQ a0=some r):AC Tryz.prog 181 [.int .i64 a0] (.bool r):=by
 unfold FQ at h
 refine acF Tryz.func181 mixed (h:=Z ?_)
 refine AD h (fun h=>Z ?_) (fun h=>Z ?_)
 ·refine AF ?_
  cases h
  simp only [go_sem]
 ·refine AF ?_
  cases h
  simp only [go_sem]
theorem OT (a0 r) (h:FF a0=some r):AC Tryz.prog 180 [.int .i64 a0] (.bool r):=by
 unfold FF at h
 refine acF Tryz.func180 mixed (h:=Z ?_)
 replace h:=AB h; obtain⟨u,w,h⟩:=h
 refine AI (Kl _ _ w) (Z ?_)
 refine AF ?_
 cases h
 simp only [go_sem]
theorem Re (a0 r) (h:MF a0=some r):AC Tryz.prog 182 [.int .i64 a0] (.bool r):=by
 unfold MF at h
 refine acF Tryz.func182 mixed (h:=Z ?_)
 refine AD h (fun h=>Z ?_) (fun h=>Z ?_)
 ·refine AF ?_
  cases h
  simp only [go_sem]
 ·refine AF ?_
  cases h
  simp only [go_sem]
theorem Km (a0 r) (h:FR a0=some r):AC Tryz.prog 183 [.int .i64 a0] (.bool r):=by
 unfold FR at h
 refine acF Tryz.func183 mixed (h:=Z ?_)
 refine AD h (fun h=>Z ?_) (fun h=>Z ?_)
 ·refine AF ?_
  cases h
  simp only [go_sem]
 ·refine AF ?_
  cases h
  simp only [go_sem]
theorem A0 (u:Bool) (w:Bool) (r:Bool) (h:As u w=some r):Aq Tryz.prog Tryz.f153 [1,1,1,1,1] (.bool r) ⟨[(3,.bool u),(4,.bool w)],[],[]⟩:=by
 unfold As at h
 refine AO rfl rfl (Z ?_)
 refine AD h (fun h=>Z ?_) (fun h=>Z ?_)
 ·refine AF ?_
  cases h
  simp only [go_sem]
 ·refine AF ?_
  cases h
  simp only [go_sem]
theorem Fv (a0:Agent) (u:Bool) (r:Bool) (h:CW a0 u=some r):Aq Tryz.prog Tryz.f153 [1,0,1] (.bool r) ⟨[(1,.box 1000000500 0),(32,.bool u)],[],[(1000000500,some [.int .i64 a0.kind,.int .i64 a0.level,.int .i64 a0.value,.ro (a0.data.map AS),.ro (a0.ports.map Port.ds)])]⟩:=by
 unfold CW at h
 refine AO rfl rfl (Z ?_)
 refine AD h (fun h=>Z ?_) (fun h=>Z ?_)
 ·cases h
  simp only [go_sem]
 ·refine AF ?_
  refine Aa [] .fin (by kernel_rfl) (Z ?_)
  refine AF ?_
  replace h:=AB h; obtain⟨w,y,h⟩:=h
  refine AI (Fk _ _ 180 [] (Still.of rfl) (fun y0 q hq=>OT y0  q hq) _ y) (Z ?_)
  refine AF ?_
  refine AD h (fun h=>Z ?_) (fun h=>Z ?_)
  ·replace h:=AB h; obtain⟨g,j,h⟩:=h
   refine AI (Re _ _ j) (Z ?_)
   exact AY (A0 g (decide ((a0.data.length:Int)=0)) _ h) [] []
  ·refine AD h (fun h=>Z ?_) (fun h=>Z ?_)
   ·replace h:=AB h; obtain⟨k,b,h⟩:=h
    refine AI (Km _ _ b) (Z ?_)
    exact AY (A0 k (decide ((a0.data.length:Int)=0)) _ h) [] []
   ·refine AD h (fun h=>Z ?_) (fun h=>Z ?_)
    ·replace h:=AB h; obtain⟨d,c,h⟩:=h
     refine AI (Km _ _ c) (Z ?_)
     refine AD h (fun h=>Z ?_) (fun h=>Z ?_)
     ·refine AD h (fun h=>Z ?_) (fun h=>Z ?_)
      ·replace h:=AB h; obtain⟨e,i,h⟩:=h
       refine AM i rfl (Z ?_)
       replace h:=AB h; obtain⟨l,t,h⟩:=h
       refine AI (Re _ _ t) (Z ?_)
       refine AF ?_
       cases h
       simp only [go_sem]
      ·refine AF ?_
       cases h
       simp only [go_sem]
     ·refine AF ?_
      cases h
      simp only [go_sem]
    ·refine AD h (fun h=>Z ?_) (fun h=>Z ?_)
     ·refine AD h (fun h=>Z ?_) (fun h=>Z ?_)
      ·exact AY (A0 (decide (a0.value<4)) (decide ((a0.data.length:Int)=0)) _ h) [] []
      ·exact AY (A0 false (decide ((a0.data.length:Int)=0)) _ h) [] []
     ·refine AD h (fun h=>Z ?_) (fun h=>Z ?_)
      ·refine AD h (fun h=>Z ?_) (fun h=>Z ?_)
       ·refine AD h (fun h=>Z ?_) (fun h=>Z ?_)
        ·exact AY (A0 (decide (a0.value=0)) (!w) _ h) [] []
        ·exact AY (A0 (decide (a0.value=0)) false _ h) [] []
       ·exact AY (A0 (decide (a0.value=0)) false _ h) [] []
      ·refine AD h (fun h=>Z ?_) (fun h=>Z ?_)
       ·refine AD h (fun h=>Z ?_) (fun h=>Z ?_)
        ·exact AY (A0 (decide (a0.value=0)) (!w) _ h) [] []
        ·exact AY (A0 (decide (a0.value=0)) false _ h) [] []
       ·refine AD h (fun h=>Z ?_) (fun h=>Z ?_)
        ·replace h:=AB h; obtain⟨s,o,h⟩:=h
         refine AI (Kl _ _ o) (Z ?_)
         exact AY (A0 s (decide ((a0.data.length:Int)=0)) _ h) [] []
        ·exact AY (A0 (decide (a0.value=0)) (decide ((a0.data.length:Int)=0)) _ h) [] []
theorem P0 (a0 r) (h:GT a0=some r):AC Tryz.prog 153 [.agg (Agent.avs a0)] (.bool r):=by
 unfold GT at h
 refine acF Tryz.func153 mixed (h:=Z ?_)
 refine Aa [] .fin (by kernel_rfl) (Z ?_)
 refine AD h (fun h=>Z ?_) (fun h=>Z ?_)
 ·exact AY (Fv a0 true _ h) [] [(1000000500,1000)]
 ·replace h:=AB h; obtain⟨u,w,h⟩:=h
  refine AI (SA _ _ _ w) (Z ?_)
  replace h:=AB h; obtain⟨y,q,h⟩:=h
  refine AI (UD _ _ _ q) (Z ?_)
  refine AD h (fun h=>Z ?_) (fun h=>Z ?_)
  ·exact AY (Fv a0 true _ h) [] [(1000000500,1000)]
  ·replace h:=AB h; obtain⟨g,j,h⟩:=h
   refine AI (GZ _ _ _ j) (Z ?_)
   exact AY (Fv a0 (!g) _ h) [] [(1000000500,1000)]
theorem NW (n:Nat):(∀a0 u r,CM n a0 u=some r→Aq Tryz.prog Tryz.f118 [1,1,0,1,0] (.bool r) ⟨[(13,.ro (a0.map Agent.ds)),(14,.int .i64 (a0.length:Int)),(15,.int .i64 u)],[],[]⟩)∧
    (∀a0 u w r,DQ n a0 u w=some r→Aq Tryz.prog Tryz.f118 [1,1,0,1,0,0,1,1,0,0,1,1] (.bool r) ⟨[(13,.ro (a0.map Agent.ds)),(14,.int .i64 (a0.length:Int)),(15,.int .i64 u),(30,.bool w)],[],[]⟩):=by
 induction n with
 |zero=>exact⟨(fun _ _ _ h=>by rw [CM] at h; cases h),(fun _ _ _ _ h=>by rw [DQ] at h; cases h)⟩
 | succ n ih=>
  obtain⟨ih0,ih1⟩:=ih
  refine⟨?_,?_⟩
  ·intro a0 u r h
   rw [CM] at h
   refine AO rfl rfl (Z ?_)
   refine AZ (Z ?_)
   refine AD h (fun h=>Z ?_) (fun h=>Z ?_)
   ·refine AF ?_
    replace h:=AB h; obtain⟨y,q,h⟩:=h
    refine AM q (Agent.ds_len _) (Z ?_)
    refine AF ?_
    replace h:=AB h; obtain⟨g,j,h⟩:=h
    refine AI (P0 _ _ j) (Z ?_)
    refine AD h (fun h=>Z ?_) (fun h=>Z ?_)
    ·exact AY (ih1 a0 u true _ h) [] []
    ·exact AY (ih1 a0 u (!((decide (y.kind=1)) == (decide (u=0)))) _ h) [] []
   ·refine AF ?_
    cases h
    simp only [go_sem]
  ·intro a0 u w r h
   rw [DQ] at h
   refine AO rfl rfl (Z ?_)
   refine AD h (fun h=>Z ?_) (fun h=>Z ?_)
   ·cases h
    simp only [go_sem]
   ·refine AF ?_
    exact lpF (ih0 a0 (IntKind.i64.wrap (u+1)) _ h) [] []
def OU (n:Nat):=(NW n).1
theorem JI (a0:List Agent) (u:Bool) (r:Bool) (h:FG a0 u=some r):Aq Tryz.prog Tryz.f118 [1,0,1] (.bool r) ⟨[(0,.ro (a0.map Agent.ds)),(12,.bool u)],[],[]⟩:=by
 unfold FG at h
 refine AO rfl rfl (Z ?_)
 refine AD h (fun h=>Z ?_) (fun h=>Z ?_)
 ·cases h
  simp only [go_sem]
 ·refine AF ?_
  exact loF (OU fuel a0 0 _ h) [] []
theorem Rf (a0 r) (h:HN a0=some r):AC Tryz.prog 118 [.ro (a0.map Agent.ds)] (.bool r):=by
 unfold HN at h
 refine acF Tryz.func118 mixed (h:=Z ?_)
 refine AD h (fun h=>Z ?_) (fun h=>Z ?_)
 ·exact AY (JI a0 true _ h) [] []
 ·exact AY (JI a0 (decide (600<(a0.length:Int))) _ h) [] []
theorem HZ (n:Nat):(∀ (a0:List Port) (u:Int) (f1:(Port→Option Bool)) (g1:FuncId) (c1:List AV) (s1:Still c1) (h1:∀ (y0:Port) (q:Bool),f1 y0=some q→AC Tryz.prog g1 (fnA c1 [.agg (Port.avs y0)]) (.bool q)) (r:Int),A9 n a0 u f1=some r→Aq Tryz.prog Tryz.f154 [1,0,1,0] (.int .i64 r) ⟨[(0,.ro (a0.map Port.ds)),(1,.fn g1 c1),(7,.int .i64 (a0.length:Int)),(8,.int .i64 u)],[],[]⟩):=by
 induction n with
 |zero=>exact((fun _ _ _ _ _ _ _ _ h=>by rw [A9] at h; cases h))
 | succ n ih=>
  have ih0:=ih
  ·intro a0 u f1 g1 c1 s1 h1 r h
   rw [A9] at h
   refine AO rfl rfl ?_
   try simp only [go_sem,s1.k,s1.r,s1.c,s1.p,s1.o,s1.f]
   refine AZ ?_
   try simp only [go_sem,s1.k,s1.r,s1.c,s1.p,s1.o,s1.f]
   refine AD h (fun h=>?_) (fun h=>?_)
   ·try simp only [go_sem,s1.k,s1.r,s1.c,s1.p,s1.o,s1.f]
    refine FY ?_
    try simp only [go_sem,s1.k,s1.r,s1.c,s1.p,s1.o,s1.f]
    replace h:=AB h; obtain⟨w,y,h⟩:=h
    refine AM y (Port.ds_len _) ?_
    try simp only [go_sem,s1.k,s1.r,s1.c,s1.p,s1.o,s1.f]
    replace h:=AB h; obtain⟨g,j,h⟩:=h
    refine AI (h1 _ _ j) ?_
    try simp only [go_sem,s1.k,s1.r,s1.c,s1.p,s1.o,s1.f]
    refine FY ?_
    try simp only [go_sem,s1.k,s1.r,s1.c,s1.p,s1.o,s1.f]
    refine AD h (fun h=>?_) (fun h=>?_)
    ·try simp only [go_sem,s1.k,s1.r,s1.c,s1.p,s1.o,s1.f]
     cases h
     simp only [go_sem,s1.k,s1.r,s1.c,s1.p,s1.o,s1.f]
    ·try simp only [go_sem,s1.k,s1.r,s1.c,s1.p,s1.o,s1.f]
     refine FY ?_
     try simp only [go_sem,s1.k,s1.r,s1.c,s1.p,s1.o,s1.f]
     refine PU (DU rfl rfl (ih0 a0 (IntKind.i64.wrap (u+1)) f1 g1 c1 s1 h1 _ h):) (.one ⟨_,.done _,[],[],?_⟩)
     try simp only [go_sem,s1.k,s1.r,s1.c,s1.p,s1.o,s1.f]
   ·try simp only [go_sem,s1.k,s1.r,s1.c,s1.p,s1.o,s1.f]
    refine FY ?_
    try simp only [go_sem,s1.k,s1.r,s1.c,s1.p,s1.o,s1.f]
    cases h
    simp only [go_sem,s1.k,s1.r,s1.c,s1.p,s1.o,s1.f]
theorem Iy (a0:List Port) (f1:(Port→Option Bool)) (g1:FuncId) (c1:List AV) (s1:Still c1) (h1:∀ (y0:Port) (q:Bool),f1 y0=some q→AC Tryz.prog g1 (fnA c1 [.agg (Port.avs y0)]) (.bool q)) (r:Int) (h:C6 a0 f1=some r):AC Tryz.prog 154 [.ro (a0.map Port.ds),.fn g1 c1] (.int .i64 r):=by
 unfold C6 at h
 refine acF Tryz.func154 mixed (h:=?_)
 try simp only [go_sem,s1.k,s1.r,s1.c,s1.p,s1.o,s1.f]
 refine CF (DU rfl rfl (HZ fuel a0 0 f1 g1 c1 s1 h1 _ h):) (.one ⟨_,.done _,[],[],?_⟩)
 try simp only [go_sem,s1.k,s1.r,s1.c,s1.p,s1.o,s1.f]
theorem Ha (a0:List Port) (f1:(Port→Option Bool)) (g1:FuncId) (c1:List AV) (s1:Still c1) (h1:∀ (y0:Port) (q:Bool),f1 y0=some q→AC Tryz.prog g1 (fnA c1 [.agg (Port.avs y0)]) (.bool q)) (r:Bool) (h:Bm a0 f1=some r):AC Tryz.prog 119 [.ro (a0.map Port.ds),.fn g1 c1] (.bool r):=by
 unfold Bm at h
 refine acF Tryz.func119 mixed (h:=?_)
 try simp only [go_sem,s1.k,s1.r,s1.c,s1.p,s1.o,s1.f]
 replace h:=AB h; obtain⟨u,w,h⟩:=h
 refine AI (Iy _ _ g1 c1 s1 h1 _ w) ?_
 try simp only [go_sem,s1.k,s1.r,s1.c,s1.p,s1.o,s1.f]
 refine FY ?_
 try simp only [go_sem,s1.k,s1.r,s1.c,s1.p,s1.o,s1.f]
 cases h
 simp only [go_sem,s1.k,s1.r,s1.c,s1.p,s1.o,s1.f]
theorem NX (n:Nat):(∀a0 u w r,B0 n a0 u w=some r→Aq Tryz.prog Tryz.f120 [1,1,0,1,0] (.ow (some 2) (r.map Port.ds)) ⟨[(3,.own 1000000000),(10,.ro (a0.agents.map Agent.ds)),(11,.int .i64 (a0.agents.length:Int)),(12,.int .i64 w)],[(1000000000,some ⟨List.map Port.ds u,some 2,0,false⟩)],[]⟩)∧
    (∀a0 w y q g r,Co n a0 w y q g=some r→Aq Tryz.prog Tryz.f120 [1,1,0,1,0,0,1,1,0,0,1,1,0] (.ow (some 2) (r.map Port.ds)) ⟨[(3,.own 1000004000),(4,.int .i64 w),(10,.ro (a0.agents.map Agent.ds)),(11,.int .i64 (a0.agents.length:Int)),(12,.int .i64 w),(19,.int .i64 (y.ports.length:Int)),(20,.int .i64 g)],[(1000004000,some ⟨List.map Port.ds q,some 2,0,false⟩)],[]⟩):=by
 induction n with
 |zero=>exact⟨(fun _ _ _ _ h=>by rw [B0] at h; cases h),(fun _ _ _ _ _ _ h=>by rw [Co] at h; cases h)⟩
 | succ n ih=>
  obtain⟨ih0,ih1⟩:=ih
  refine⟨?_,?_⟩
  ·intro a0 u w r h
   rw [B0] at h
   refine AO rfl rfl (Z ?_)
   refine AZ (Z ?_)
   refine AD h (fun h=>Z ?_) (fun h=>Z ?_)
   ·refine AF ?_
    replace h:=AB h; obtain⟨y,j,h⟩:=h
    refine AM j (Agent.ds_len _) (Z ?_)
    refine AF ?_
    exact loF (ih1 a0 w y u 0 _ h) [(1000004000,1000000000)] []
   ·refine AF ?_
    cases h
    simp only [go_sem]
  ·intro a0 w y q g r h
   rw [Co] at h
   refine AO rfl rfl (Z ?_)
   refine AZ (Z ?_)
   refine AD h (fun h=>Z ?_) (fun h=>Z ?_)
   ·refine AF ?_
    replace h:=AB h; obtain⟨k,b,h⟩:=h
    have hq_:=Av b
    obtain⟨hv9005a,hv9005b⟩:=hq_
    refine Cz false (Z ?_)
    refine Al (by refine⟨?_,?_⟩ <;> (try simp only [List.length_map,List.length_append,List.length_cons,List.length_nil] at*) <;> (try unfold maxLen) <;> omega) (Z ?_)
    refine A6 (k.map Port.ds) (by rw [← hv9005b]; simp only [List.map_append,List.map_cons,List.map_nil,List.nil_append,List.append_nil,go_sem,Port.ds_eq]) (Z ?_)
    refine AF ?_
    exact lpF (ih1 a0 w y k (IntKind.i64.wrap (g+1)) _ h) [(1000004000,144080)] []
   ·refine AF ?_
    exact lpF (ih0 a0 q (IntKind.i64.wrap (w+1)) _ h) [(1000000000,1000004000)] []
def OV (n:Nat):=(NX n).1
theorem Rg (a0 r) (h:HO a0=some r):AC Tryz.prog 120 [.rop (Net.avs a0) 0] (.ow (some 2) (r.map Port.ds)):=by
 unfold HO at h
 refine acF Tryz.func120 mixed (h:=Z ?_)
 refine CF (DU rfl rfl (OV fuel a0 [] 0 _ h):) (.one ⟨_,.slot 3 2000000000 (some 2) false (by simp only [go_sem]) (by simp only [go_sem]) (.done _),[(1000000000,2000000000)],[],?_⟩)
 simp only [go_sem]
 all_goals try rfl
theorem Eu (a0 a1 r) (h:Ct a0 a1=some r):AC Tryz.prog 122 [.rop (Net.avs a0) 0,.agg (Port.avs a1)] (.agg (Port.rv r)):=by
 unfold Ct at h
 refine acF Tryz.func122 mixed (h:=Z ?_)
 refine AF ?_
 refine Aa [false,false,false,false,false,false,false,false,false,false,false,false,false,true] (Tr.sq [13] .fin) (by kernel_rfl) (Z ?_)
 replace h:=AB h; obtain⟨u,w,h⟩:=h
 refine AM w (Agent.ds_len _) (Z ?_)
 replace h:=AB h; obtain⟨y,q,h⟩:=h
 refine AM q (Port.ds_len _) (Z ?_)
 refine AF ?_
 cases h
 simp only [go_sem]
theorem UE (a0 a1 r) (h:Jp a0 a1=some r):AC Tryz.prog 123 [.ro (a0.map Agent.ds),.agg (Port.avs a1)] (.bool r):=by
 unfold Jp at h
 refine acF Tryz.func123 mixed (h:=Z ?_)
 refine Aa [] .fin (by kernel_rfl) (Z ?_)
 refine AD h (fun h=>Z ?_) (fun h=>Z ?_)
 ·refine AD h (fun h=>Z ?_) (fun h=>Z ?_)
  ·refine AD h (fun h=>Z ?_) (fun h=>Z ?_)
   ·replace h:=AB h; obtain⟨u,w,h⟩:=h
    refine AM w (Agent.ds_len _) (Z ?_)
    refine AF ?_
    cases h
    simp only [go_sem]
   ·refine AF ?_
    cases h
    simp only [go_sem]
  ·refine AF ?_
   cases h
   simp only [go_sem]
 ·refine AF ?_
  cases h
  simp only [go_sem]
theorem P3 (a0 a1 r) (h:GU a0 a1=some r):AC Tryz.prog 121 [.agg (Port.avs a0),.rop (Net.avs a1) 0] (.bool r):=by
 unfold GU at h
 refine acF Tryz.func121 mixed (h:=Z ?_)
 replace h:=AB h; obtain⟨u,w,h⟩:=h
 refine AI (Eu _ _ _ w) (Z ?_)
 refine AF ?_
 refine Aa [] .fin (by kernel_rfl) (Z ?_)
 refine AD h (fun h=>Z ?_) (fun h=>Z ?_)
 ·refine AF ?_
  cases h
  simp only [go_sem]
 ·replace h:=AB h; obtain⟨y,q,h⟩:=h
  refine AI (UE _ _ _ q) (Z ?_)
  refine AD h (fun h=>Z ?_) (fun h=>Z ?_)
  ·refine AF ?_
   cases h
   simp only [go_sem]
  ·replace h:=AB h; obtain⟨g,j,h⟩:=h
   refine AI (Eu _ _ _ j) (Z ?_)
   refine AF ?_
   cases h
   simp only [go_sem]
theorem Ml (a0 r) (h:Gr a0=some r):AC Tryz.prog 73 [.agg (Net.avs a0)] (.bool r):=by
 unfold Gr at h
 refine acF Tryz.func73 mixed (h:=Z ?_)
 replace h:=AB h; obtain⟨u,w,h⟩:=h
 refine AI (Rf _ _ w) (Z ?_)
 refine AF ?_
 refine AD h (fun h=>Z ?_) (fun h=>Z ?_)
 ·cases h
  simp only [go_sem]
 ·refine AF ?_
  replace h:=AB h; obtain⟨y,g,h⟩:=h
  refine AI (Rg _ _ g) (Z ?_)
  replace h:=AB h; obtain⟨j,k,h⟩:=h
  refine AI (Ha _ _ 121 [.agg [],.rop [.ro (a0.agents.map Agent.ds)] 0] (Still.of (by simp only [EL,Fa,Bool.and_true,Bool.true_and,Bool.and_self])) (fun y0 q hq=>P3 y0 _ q hq) _ k) (Z ?_)
  refine AF ?_
  cases h
  simp only [go_sem]
theorem BV (a0 a1 a2 r) (h:CJ a0 a1 a2=some r):AC Tryz.prog 55 [.int .i64 a0,.int .i64 a1,.int .i64 a2] (.bool r):=by
 unfold CJ at h
 refine acF Tryz.func55 mixed (h:=Z ?_)
 refine AD h (fun h=>Z ?_) (fun h=>Z ?_)
 ·refine AF ?_
  cases h
  simp only [go_sem]
 ·refine AF ?_
  cases h
  simp only [go_sem]
theorem Iq (a0 r) (h:DB a0=some r):AC Tryz.prog 108 [.rop (Agent.avs a0) 0] (.int .i64 r):=by
 unfold DB at h
 refine acF Tryz.func108 mixed (h:=Z ?_)
 refine AD h (fun h=>Z ?_) (fun h=>Z ?_)
 ·cases h
  simp only [go_sem]
 ·refine AF ?_
  cases h
  simp only [go_sem]
theorem Fn (u:Bool) (r:Int) (h:EY u=some r):Aq Tryz.prog Tryz.f172 [1,1,1,0,1,0,1,1,1,1,1] (.int .i64 r) ⟨[(23,.bool u)],[],[]⟩:=by
 unfold EY at h
 refine AO rfl rfl (Z ?_)
 refine AD h (fun h=>Z ?_) (fun h=>Z ?_)
 ·cases h
  simp only [go_sem]
 ·refine AF ?_
  cases h
  simp only [go_sem]
theorem Hb (a0:Int) (u:Bool) (r:Int) (h:FS a0 u=some r):Aq Tryz.prog Tryz.f172 [1,1,1,0,1,0,1,1,1] (.int .i64 r) ⟨[(13,.int .i64 a0),(19,.bool u)],[],[]⟩:=by
 unfold FS at h
 refine AO rfl rfl (Z ?_)
 refine AD h (fun h=>Z ?_) (fun h=>Z ?_)
 ·cases h
  simp only [go_sem]
 ·refine AD h (fun h=>Z ?_) (fun h=>Z ?_)
  ·exact AY (Fn (decide (a0=2)) _ h) [] []
  ·refine AD h (fun h=>Z ?_) (fun h=>Z ?_)
   ·exact AY (Fn (decide (a0=3)) _ h) [] []
   ·refine AD h (fun h=>Z ?_) (fun h=>Z ?_)
    ·exact AY (Fn (decide (a0=4)) _ h) [] []
    ·exact AY (Fn (decide (a0=7)) _ h) [] []
theorem Fo (a0:Int) (u:Bool) (r:Int) (h:EZ a0 u=some r):Aq Tryz.prog Tryz.f172 [1,1,1,0,1,0,1] (.int .i64 r) ⟨[(13,.int .i64 a0),(14,.bool u)],[],[]⟩:=by
 unfold EZ at h
 refine AO rfl rfl (Z ?_)
 refine AD h (fun h=>Z ?_) (fun h=>Z ?_)
 ·cases h
  simp only [go_sem]
 ·refine AD h (fun h=>Z ?_) (fun h=>Z ?_)
  ·exact AY (Hb a0 (decide (a0=8)) _ h) [] []
  ·refine AD h (fun h=>Z ?_) (fun h=>Z ?_)
   ·exact AY (Hb a0 (decide (a0=10)) _ h) [] []
   ·exact AY (Hb a0 (decide (a0=11)) _ h) [] []
theorem UF (a0 a1 r) (h:IB a0 a1=some r):AC Tryz.prog 172 [.int .i64 a0,.int .i64 a1] (.int .i64 r):=by
 unfold IB at h
 refine acF Tryz.func172 mixed (h:=Z ?_)
 refine AD h (fun h=>Z ?_) (fun h=>Z ?_)
 ·replace h:=AB h; obtain⟨u,w,h⟩:=h
  refine AI (BV _ _ _ _ w) (Z ?_)
  refine AF ?_
  refine AD h (fun h=>Z ?_) (fun h=>Z ?_)
  ·cases h
   simp only [go_sem]
  ·refine AF ?_
   cases h
   simp only [go_sem]
 ·refine AF ?_
  refine AD h (fun h=>Z ?_) (fun h=>Z ?_)
  ·cases h
   simp only [go_sem]
  ·refine AF ?_
   refine AD h (fun h=>Z ?_) (fun h=>Z ?_)
   ·exact AY (Fo a0 (decide (a0=1)) _ h) [] []
   ·refine AD h (fun h=>Z ?_) (fun h=>Z ?_)
    ·exact AY (Fo a0 (decide (a0=5)) _ h) [] []
    ·refine AD h (fun h=>Z ?_) (fun h=>Z ?_)
     ·exact AY (Fo a0 (decide (a0=6)) _ h) [] []
     ·exact AY (Fo a0 (decide (a0=12)) _ h) [] []
theorem Bl (u:Bool) (r:Bool) (h:BF u=some r):Aq Tryz.prog Tryz.f114 [1,0,1,0,1] (.bool r) ⟨[(4,.bool u)],[],[]⟩:=by
 unfold BF at h
 refine AO rfl rfl (Z ?_)
 refine AD h (fun h=>Z ?_) (fun h=>Z ?_)
 ·cases h
  simp only [go_sem]
 ·refine AF ?_
  cases h
  simp only [go_sem]
theorem JP (a0 r) (h:Dr a0=some r):AC Tryz.prog 114 [.int .i64 a0] (.bool r):=by
 unfold Dr at h
 refine acF Tryz.func114 mixed (h:=Z ?_)
 refine AD h (fun h=>Z ?_) (fun h=>Z ?_)
 ·exact AY (Bl (decide (a0=2)) _ h) [] []
 ·refine AD h (fun h=>Z ?_) (fun h=>Z ?_)
  ·exact AY (Bl (decide (a0=3)) _ h) [] []
  ·refine AD h (fun h=>Z ?_) (fun h=>Z ?_)
   ·exact AY (Bl (decide (a0=4)) _ h) [] []
   ·refine AD h (fun h=>Z ?_) (fun h=>Z ?_)
    ·exact AY (Bl (decide (a0=7)) _ h) [] []
    ·refine AD h (fun h=>Z ?_) (fun h=>Z ?_)
     ·exact AY (Bl (decide (a0=8)) _ h) [] []
     ·refine AD h (fun h=>Z ?_) (fun h=>Z ?_)
      ·exact AY (Bl (decide (a0=9)) _ h) [] []
      ·refine AD h (fun h=>Z ?_) (fun h=>Z ?_)
       ·exact AY (Bl (decide (a0=10)) _ h) [] []
       ·refine AD h (fun h=>Z ?_) (fun h=>Z ?_)
        ·exact AY (Bl (decide (a0=11)) _ h) [] []
        ·exact AY (Bl (decide (a0=12)) _ h) [] []
theorem UG (a0 r) (h:Jq a0=some r):AC Tryz.prog 196 [.int .i64 a0] (.bool r):=by
 unfold Jq at h
 refine acF Tryz.func196 mixed (h:=Z ?_)
 replace h:=AB h; obtain⟨u,w,h⟩:=h
 refine AI (BV _ _ _ _ w) (Z ?_)
 refine AF ?_
 cases h
 simp only [go_sem]
theorem G4 (a0 a1 r) (h:EQ a0 a1=some r):AC Tryz.prog 173 [.int .i64 a0,.int .i64 a1] (.bool r):=by
 unfold EQ at h
 refine acF Tryz.func173 mixed (h:=Z ?_)
 replace h:=AB h; obtain⟨u,w,h⟩:=h
 refine AI (JP _ _ w) (Z ?_)
 refine AF ?_
 refine AD h (fun h=>Z ?_) (fun h=>Z ?_)
 ·replace h:=AB h; obtain⟨y,q,h⟩:=h
  refine AI (BV _ _ _ _ q) (Z ?_)
  refine AF ?_
  cases h
  simp only [go_sem]
 ·refine AF ?_
  replace h:=AB h; obtain⟨g,j,h⟩:=h
  refine AI (UG _ _ j) (Z ?_)
  refine AD h (fun h=>Z ?_) (fun h=>Z ?_)
  ·refine AF ?_
   cases h
   simp only [go_sem]
  ·refine AF ?_
   cases h
   simp only [go_sem]
theorem Pe (a0 r) (h:Ie a0=some r):AC Tryz.prog 197 [.int .i64 a0] (.bool r):=by
 unfold Ie at h
 refine acF Tryz.func197 mixed (h:=Z ?_)
 replace h:=AB h; obtain⟨u,w,h⟩:=h
 refine AI (BV _ _ _ _ w) (Z ?_)
 refine AF ?_
 cases h
 simp only [go_sem]
theorem NY (n:Nat):(∀a0 u r,CX n a0 u=some r→Aq Tryz.prog Tryz.f174 [1,0,1,0,1,1,1,1,1,1,1,1,1,1,1,0,1,0,1,0] (.bool r) ⟨[(0,.rop [.int .i64 a0.kind,.int .i64 a0.level,.int .i64 a0.value,.ro (a0.data.map AS),.ro (a0.ports.map Port.ds)] 0),(3,.int .i64 u)],[],[]⟩):=by
 induction n with
 |zero=>exact((fun _ _ _ h=>by rw [CX] at h; cases h))
 | succ n ih=>
  have ih0:=ih
  ·intro a0 u r h
   rw [CX] at h
   refine AO rfl rfl (Z ?_)
   refine AZ (Z ?_)
   refine AD h (fun h=>Z ?_) (fun h=>Z ?_)
   ·refine AF ?_
    replace h:=AB h; obtain⟨w,y,h⟩:=h
    refine AM y rfl (Z ?_)
    replace h:=AB h; obtain⟨q,g,h⟩:=h
    refine AI (Pe _ _ g) (Z ?_)
    refine AF ?_
    refine AD h (fun h=>Z ?_) (fun h=>Z ?_)
    ·cases h
     simp only [go_sem]
    ·refine AF ?_
     exact lpF (ih0 a0 (IntKind.i64.wrap (u+1)) _ h) [] []
   ·refine AF ?_
    cases h
    simp only [go_sem]
theorem Cf (a0:Agent) (u:Bool) (r:Bool) (h:B8 a0 u=some r):Aq Tryz.prog Tryz.f174 [1,0,1,0,1,1,1,1,1,1,1,1,1,1,1,0,0,1] (.bool r) ⟨[(0,.rop [.int .i64 a0.kind,.int .i64 a0.level,.int .i64 a0.value,.ro (a0.data.map AS),.ro (a0.ports.map Port.ds)] 0),(130,.bool u)],[],[]⟩:=by
 unfold B8 at h
 refine AO rfl rfl (Z ?_)
 refine AD h (fun h=>Z ?_) (fun h=>Z ?_)
 ·cases h
  simp only [go_sem]
 ·refine AF ?_
  exact loF (NY fuel a0 0 _ h) [] []
theorem Is (a0:Agent) (u:Bool) (r:Bool) (h:Ej a0 u=some r):Aq Tryz.prog Tryz.f174 [1,0,1,0,1,1,1,1,1,1,1,1,1,1,1] (.bool r) ⟨[(0,.rop [.int .i64 a0.kind,.int .i64 a0.level,.int .i64 a0.value,.ro (a0.data.map AS),.ro (a0.ports.map Port.ds)] 0),(92,.bool u)],[],[]⟩:=by
 unfold Ej at h
 refine AO rfl rfl (Z ?_)
 refine AD h (fun h=>Z ?_) (fun h=>Z ?_)
 ·refine AD h (fun h=>Z ?_) (fun h=>Z ?_)
  ·exact AY (Cf a0 true _ h) [] []
  ·refine AD h (fun h=>Z ?_) (fun h=>Z ?_)
   ·refine AD h (fun h=>Z ?_) (fun h=>Z ?_)
    ·exact AY (Cf a0 true _ h) [] []
    ·refine AD h (fun h=>Z ?_) (fun h=>Z ?_)
     ·replace h:=AB h; obtain⟨w,y,h⟩:=h
      refine AI (BV _ _ _ _ y) (Z ?_)
      exact AY (Cf a0 (!w) _ h) [] []
     ·exact AY (Cf a0 false _ h) [] []
   ·refine AD h (fun h=>Z ?_) (fun h=>Z ?_)
    ·replace h:=AB h; obtain⟨w,y,h⟩:=h
     refine AI (BV _ _ _ _ y) (Z ?_)
     exact AY (Cf a0 (!w) _ h) [] []
    ·exact AY (Cf a0 false _ h) [] []
 ·refine AF ?_
  refine AD h (fun h=>Z ?_) (fun h=>Z ?_)
  ·refine AF ?_
   cases h
   simp only [go_sem]
  ·refine AF ?_
   cases h
   simp only [go_sem]
theorem P4 (a0 r) (h:GV a0=some r):AC Tryz.prog 174 [.rop (Agent.avs a0) 0] (.bool r):=by
 unfold GV at h
 refine acF Tryz.func174 mixed (h:=Z ?_)
 refine AD h (fun h=>Z ?_) (fun h=>Z ?_)
 ·refine AD h (fun h=>Z ?_) (fun h=>Z ?_)
  ·replace h:=AB h; obtain⟨u,w,h⟩:=h
   refine AI (BV _ _ _ _ w) (Z ?_)
   refine AF ?_
   cases h
   simp only [go_sem]
  ·refine AF ?_
   cases h
   simp only [go_sem]
 ·refine AD h (fun h=>Z ?_) (fun h=>Z ?_)
  ·refine AD h (fun h=>Z ?_) (fun h=>Z ?_)
   ·replace h:=AB h; obtain⟨y,q,h⟩:=h
    refine AI (BV _ _ _ _ q) (Z ?_)
    refine AF ?_
    cases h
    simp only [go_sem]
   ·refine AF ?_
    cases h
    simp only [go_sem]
  ·refine AD h (fun h=>Z ?_) (fun h=>Z ?_)
   ·refine AD h (fun h=>Z ?_) (fun h=>Z ?_)
    ·replace h:=AB h; obtain⟨g,j,h⟩:=h
     refine AI (BV _ _ _ _ j) (Z ?_)
     refine AD h (fun h=>Z ?_) (fun h=>Z ?_)
     ·replace h:=AB h; obtain⟨k,b,h⟩:=h
      refine AM b rfl (Z ?_)
      replace h:=AB h; obtain⟨d,c,h⟩:=h
      refine AI (BV _ _ _ _ c) (Z ?_)
      refine AF ?_
      cases h
      simp only [go_sem]
     ·refine AF ?_
      cases h
      simp only [go_sem]
    ·refine AF ?_
     cases h
     simp only [go_sem]
   ·refine AD h (fun h=>Z ?_) (fun h=>Z ?_)
    ·refine AD h (fun h=>Z ?_) (fun h=>Z ?_)
     ·replace h:=AB h; obtain⟨e,i,h⟩:=h
      refine AI (BV _ _ _ _ i) (Z ?_)
      refine AF ?_
      cases h
      simp only [go_sem]
     ·refine AF ?_
      cases h
      simp only [go_sem]
    ·refine AD h (fun h=>Z ?_) (fun h=>Z ?_)
     ·refine AD h (fun h=>Z ?_) (fun h=>Z ?_)
      ·replace h:=AB h; obtain⟨l,t,h⟩:=h
       refine AI (Pe _ _ t) (Z ?_)
       refine AF ?_
       cases h
       simp only [go_sem]
      ·refine AF ?_
       cases h
       simp only [go_sem]
     ·refine AD h (fun h=>Z ?_) (fun h=>Z ?_)
      ·exact AY (Is a0 (decide (a0.kind=10)) _ h) [] []
      ·exact AY (Is a0 (decide (a0.kind=11)) _ h) [] []
theorem SB (a0 r) (h:If a0=some r):AC Tryz.prog 138 [.rop (Agent.avs a0) 0] (.bool r):=by
 unfold If at h
 refine acF Tryz.func138 mixed (h:=Z ?_)
 refine Aa [] .fin (by kernel_rfl) (Z ?_)
 replace h:=AB h; obtain⟨u,w,h⟩:=h
 refine AI (Iq _ _ w) (Z ?_)
 replace h:=AB h; obtain⟨y,q,h⟩:=h
 refine AI (UF _ _ _ q) (Z ?_)
 refine AF ?_
 refine Aa [] .fin (by kernel_rfl) (Z ?_)
 refine AD h (fun h=>Z ?_) (fun h=>Z ?_)
 ·refine AD h (fun h=>Z ?_) (fun h=>Z ?_)
  ·replace h:=AB h; obtain⟨g,j,h⟩:=h
   refine AI (G4 _ _ _ j) (Z ?_)
   refine AD h (fun h=>Z ?_) (fun h=>Z ?_)
   ·replace h:=AB h; obtain⟨k,b,h⟩:=h
    refine AI (P4 _ _ b) (Z ?_)
    refine AF ?_
    cases h
    simp only [go_sem]
   ·refine AF ?_
    cases h
    simp only [go_sem]
  ·refine AF ?_
   cases h
   simp only [go_sem]
 ·refine AF ?_
  cases h
  simp only [go_sem]
theorem NZ (n:Nat):(∀a0 u r,CN n a0 u=some r→Aq Tryz.prog Tryz.f103 [1,1,0,1,0] (.bool r) ⟨[(0,.ro (a0.map Agent.ds)),(3,.int .i64 u)],[],[]⟩)∧
    (∀a0 u w r,DR n a0 u w=some r→Aq Tryz.prog Tryz.f103 [1,1,0,1,0,0,1,0,0,1] (.bool r) ⟨[(0,.ro (a0.map Agent.ds)),(3,.int .i64 u),(29,.bool w)],[],[]⟩):=by
 induction n with
 |zero=>exact⟨(fun _ _ _ h=>by rw [CN] at h; cases h),(fun _ _ _ _ h=>by rw [DR] at h; cases h)⟩
 | succ n ih=>
  obtain⟨ih0,ih1⟩:=ih
  refine⟨?_,?_⟩
  ·intro a0 u r h
   rw [CN] at h
   refine AO rfl rfl (Z ?_)
   refine AZ (Z ?_)
   refine AD h (fun h=>Z ?_) (fun h=>Z ?_)
   ·refine AF ?_
    replace h:=AB h; obtain⟨y,q,h⟩:=h
    refine AM q (Agent.ds_len _) (Z ?_)
    replace h:=AB h; obtain⟨g,j,h⟩:=h
    refine AI (SB _ _ j) (Z ?_)
    refine AD h (fun h=>Z ?_) (fun h=>Z ?_)
    ·exact AY (ih1 a0 u true _ h) [] []
    ·replace h:=AB h; obtain⟨k,b,h⟩:=h
     refine AM b (Agent.ds_len _) (Z ?_)
     exact AY (ih1 a0 u (!((decide (k.kind=1)) == (decide (u=0)))) _ h) [] []
   ·refine AF ?_
    cases h
    simp only [go_sem]
  ·intro a0 u w r h
   rw [DR] at h
   refine AO rfl rfl (Z ?_)
   refine AD h (fun h=>Z ?_) (fun h=>Z ?_)
   ·cases h
    simp only [go_sem]
   ·refine AF ?_
    exact lpF (ih0 a0 (IntKind.i64.wrap (u+1)) _ h) [] []
def OW (n:Nat):=(NZ n).1
theorem Rh (a0 r) (h:HP a0=some r):AC Tryz.prog 103 [.ro (a0.map Agent.ds)] (.bool r):=by
 unfold HP at h
 refine acF Tryz.func103 mixed (h:=Z ?_)
 replace h:=AB h; obtain⟨u,w,h⟩:=h
 refine AI (BV _ _ _ _ w) (Z ?_)
 refine AF ?_
 refine AD h (fun h=>Z ?_) (fun h=>Z ?_)
 ·cases h
  simp only [go_sem]
 ·refine AF ?_
  exact loF (OW fuel a0 0 _ h) [] []
theorem UH (a0 a1 r) (h:Jr a0 a1=some r):AC Tryz.prog 104 [.ro (a0.map Agent.ds),.agg (Port.avs a1)] (.bool r):=by
 unfold Jr at h
 refine acF Tryz.func104 mixed (h:=Z ?_)
 refine Aa [] .fin (by kernel_rfl) (Z ?_)
 replace h:=AB h; obtain⟨u,w,h⟩:=h
 refine AI (BV _ _ _ _ w) (Z ?_)
 refine AD h (fun h=>Z ?_) (fun h=>Z ?_)
 ·replace h:=AB h; obtain⟨y,q,h⟩:=h
  refine AM q (Agent.ds_len _) (Z ?_)
  replace h:=AB h; obtain⟨g,j,h⟩:=h
  refine AI (BV _ _ _ _ j) (Z ?_)
  refine AF ?_
  cases h
  simp only [go_sem]
 ·refine AF ?_
  cases h
  simp only [go_sem]
theorem Ri (n:Nat):(∀a0 u r,Dy n a0 u=some r→Aq Tryz.prog Tryz.f53 [1,1,0,1,0] (.bool r) ⟨[(0,.rop [.ro (a0.agents.map Agent.ds)] 0),(3,.int .i64 u)],[],[]⟩)∧
    (∀a0 u w y r,EJ n a0 u w y=some r→Aq Tryz.prog Tryz.f53 [1,1,0,1,0,0,1,0,0,1,1,0] (.bool r) ⟨[(0,.rop [.ro (a0.agents.map Agent.ds)] 0),(3,.int .i64 u),(4,.rop [.int .i64 w.kind,.int .i64 w.level,.int .i64 w.value,.ro (w.data.map AS),.ro (w.ports.map Port.ds)] 0),(5,.int .i64 y)],[],[]⟩)∧
    (∀a0 u y w q r,EK n a0 u y w q=some r→Aq Tryz.prog Tryz.f53 [1,1,0,1,0,0,1,0,0,1,1,0,0,1,0,0,1,1,1] (.bool r) ⟨[(0,.rop [.ro (a0.agents.map Agent.ds)] 0),(3,.int .i64 u),(4,.rop [.int .i64 w.kind,.int .i64 w.level,.int .i64 w.value,.ro (w.data.map AS),.ro (w.ports.map Port.ds)] 0),(5,.int .i64 y),(76,.bool q)],[],[]⟩):=by
 induction n with
 |zero=>exact⟨(fun _ _ _ h=>by rw [Dy] at h; cases h),(fun _ _ _ _ _ h=>by rw [EJ] at h; cases h),(fun _ _ _ _ _ _ h=>by rw [EK] at h; cases h)⟩
 | succ n ih=>
  obtain⟨ih0,ih1,ih2⟩:=ih
  refine⟨?_,?_,?_⟩
  ·intro a0 u r h
   rw [Dy] at h
   refine AO rfl rfl (Z ?_)
   refine AZ (Z ?_)
   refine AD h (fun h=>Z ?_) (fun h=>Z ?_)
   ·refine AF ?_
    replace h:=AB h; obtain⟨w,g,h⟩:=h
    refine AM g (Agent.ds_len _) (Z ?_)
    exact loF (ih1 a0 u w 0 _ h) [] []
   ·refine AF ?_
    cases h
    simp only [go_sem]
  ·intro a0 u w y r h
   rw [EJ] at h
   refine AO rfl rfl (Z ?_)
   refine AZ (Z ?_)
   refine AD h (fun h=>Z ?_) (fun h=>Z ?_)
   ·refine AF ?_
    refine AF ?_
    replace h:=AB h; obtain⟨j,k,h⟩:=h
    refine AM k (Port.ds_len _) (Z ?_)
    refine AF ?_
    refine Aa [] .fin (by kernel_rfl) (Z ?_)
    refine AD h (fun h=>Z ?_) (fun h=>Z ?_)
    ·exact AY (ih2 a0 u y w true _ h) [] []
    ·replace h:=AB h; obtain⟨b,d,h⟩:=h
     refine AI (UH _ _ _ d) (Z ?_)
     refine AD h (fun h=>Z ?_) (fun h=>Z ?_)
     ·exact AY (ih2 a0 u y w true _ h) [] []
     ·replace h:=AB h; obtain⟨c,e,h⟩:=h
      refine AM e (Agent.ds_len _) (Z ?_)
      replace h:=AB h; obtain⟨i,l,h⟩:=h
      refine AM l (Port.ds_len _) (Z ?_)
      exact AY (ih2 a0 u y w (!(decide (i.agent=u)&&decide (i.slot=y))) _ h) [] []
   ·refine AF ?_
    exact lpF (ih0 a0 (IntKind.i64.wrap (u+1)) _ h) [] []
  ·intro a0 u y w q r h
   rw [EK] at h
   refine AO rfl rfl (Z ?_)
   refine AD h (fun h=>Z ?_) (fun h=>Z ?_)
   ·cases h
    simp only [go_sem]
   ·refine AF ?_
    exact lpF (ih1 a0 u w (IntKind.i64.wrap (y+1)) _ h) [] []
def SC (n:Nat):=(Ri n).1
theorem RZ (a0 r) (h:KO a0=some r):AC Tryz.prog 53 [.rop (Net.avs a0) 0] (.bool r):=by
 unfold KO at h
 refine acF Tryz.func53 mixed (h:=Z ?_)
 replace h:=AB h; obtain⟨u,w,h⟩:=h
 refine AI (Rh _ _ w) (Z ?_)
 refine AF ?_
 refine AD h (fun h=>Z ?_) (fun h=>Z ?_)
 ·cases h
  simp only [go_sem]
 ·refine AF ?_
  exact loF (SC fuel a0 0 _ h) [] []
theorem Hu (n:Nat):(∀ (a0:List Net) (u:Int) (f1:(Net→Option Bool)) (g1:FuncId) (c1:List AV) (s1:Still c1) (h1:∀ (y0:Net) (q:Bool),f1 y0=some q→AC Tryz.prog g1 (fnA c1 [.agg (Net.avs y0)]) (.bool q)) (r:Int),BG n a0 u f1=some r→Aq Tryz.prog Tryz.f152 [1,0,1,0] (.int .i64 r) ⟨[(0,.ro (a0.map Net.ds)),(1,.fn g1 c1),(7,.int .i64 (a0.length:Int)),(8,.int .i64 u)],[],[]⟩):=by
 induction n with
 |zero=>exact((fun _ _ _ _ _ _ _ _ h=>by rw [BG] at h; cases h))
 | succ n ih=>
  have ih0:=ih
  ·intro a0 u f1 g1 c1 s1 h1 r h
   rw [BG] at h
   refine AO rfl rfl ?_
   try simp only [go_sem,s1.k,s1.r,s1.c,s1.p,s1.o,s1.f]
   refine AZ ?_
   try simp only [go_sem,s1.k,s1.r,s1.c,s1.p,s1.o,s1.f]
   refine AD h (fun h=>?_) (fun h=>?_)
   ·try simp only [go_sem,s1.k,s1.r,s1.c,s1.p,s1.o,s1.f]
    refine FY ?_
    try simp only [go_sem,s1.k,s1.r,s1.c,s1.p,s1.o,s1.f]
    replace h:=AB h; obtain⟨w,y,h⟩:=h
    refine AM y (Net.ds_len _) ?_
    try simp only [go_sem,s1.k,s1.r,s1.c,s1.p,s1.o,s1.f]
    replace h:=AB h; obtain⟨g,j,h⟩:=h
    refine AI (h1 _ _ j) ?_
    try simp only [go_sem,s1.k,s1.r,s1.c,s1.p,s1.o,s1.f]
    refine FY ?_
    try simp only [go_sem,s1.k,s1.r,s1.c,s1.p,s1.o,s1.f]
    refine AD h (fun h=>?_) (fun h=>?_)
    ·try simp only [go_sem,s1.k,s1.r,s1.c,s1.p,s1.o,s1.f]
     cases h
     simp only [go_sem,s1.k,s1.r,s1.c,s1.p,s1.o,s1.f]
    ·try simp only [go_sem,s1.k,s1.r,s1.c,s1.p,s1.o,s1.f]
     refine FY ?_
     try simp only [go_sem,s1.k,s1.r,s1.c,s1.p,s1.o,s1.f]
     refine PU (DU rfl rfl (ih0 a0 (IntKind.i64.wrap (u+1)) f1 g1 c1 s1 h1 _ h):) (.one ⟨_,.done _,[],[],?_⟩)
     try simp only [go_sem,s1.k,s1.r,s1.c,s1.p,s1.o,s1.f]
   ·try simp only [go_sem,s1.k,s1.r,s1.c,s1.p,s1.o,s1.f]
    refine FY ?_
    try simp only [go_sem,s1.k,s1.r,s1.c,s1.p,s1.o,s1.f]
    cases h
    simp only [go_sem,s1.k,s1.r,s1.c,s1.p,s1.o,s1.f]
theorem JS (a0:List Net) (f1:(Net→Option Bool)) (g1:FuncId) (c1:List AV) (s1:Still c1) (h1:∀ (y0:Net) (q:Bool),f1 y0=some q→AC Tryz.prog g1 (fnA c1 [.agg (Net.avs y0)]) (.bool q)) (r:Int) (h:DV a0 f1=some r):AC Tryz.prog 152 [.ro (a0.map Net.ds),.fn g1 c1] (.int .i64 r):=by
 unfold DV at h
 refine acF Tryz.func152 mixed (h:=?_)
 try simp only [go_sem,s1.k,s1.r,s1.c,s1.p,s1.o,s1.f]
 refine CF (DU rfl rfl (Hu fuel a0 0 f1 g1 c1 s1 h1 _ h):) (.one ⟨_,.done _,[],[],?_⟩)
 try simp only [go_sem,s1.k,s1.r,s1.c,s1.p,s1.o,s1.f]
theorem Hv (a0:List Net) (f1:(Net→Option Bool)) (g1:FuncId) (c1:List AV) (s1:Still c1) (h1:∀ (y0:Net) (q:Bool),f1 y0=some q→AC Tryz.prog g1 (fnA c1 [.agg (Net.avs y0)]) (.bool q)) (r:Bool) (h:B5 a0 f1=some r):AC Tryz.prog 116 [.ro (a0.map Net.ds),.fn g1 c1] (.bool r):=by
 unfold B5 at h
 refine acF Tryz.func116 mixed (h:=?_)
 try simp only [go_sem,s1.k,s1.r,s1.c,s1.p,s1.o,s1.f]
 replace h:=AB h; obtain⟨u,w,h⟩:=h
 refine AI (JS _ _ g1 c1 s1 h1 _ w) ?_
 try simp only [go_sem,s1.k,s1.r,s1.c,s1.p,s1.o,s1.f]
 refine FY ?_
 try simp only [go_sem,s1.k,s1.r,s1.c,s1.p,s1.o,s1.f]
 cases h
 simp only [go_sem,s1.k,s1.r,s1.c,s1.p,s1.o,s1.f]
theorem Ks (a0 r) (h:Ea a0=some r):AC Tryz.prog 117 [.agg (Net.avs a0)] (.bool r):=by
 unfold Ea at h
 refine acF Tryz.func117 mixed (h:=Z ?_)
 replace h:=AB h; obtain⟨u,w,h⟩:=h
 refine AI (Ml _ _ w) (Z ?_)
 refine AF ?_
 cases h
 simp only [go_sem]
theorem MZ (a0 r) (h:D9 a0=some r):AC Tryz.prog 72 [.ro (a0.map Net.ds)] (.bool r):=by
 unfold D9 at h
 refine acF Tryz.func72 mixed (h:=Z ?_)
 refine AD h (fun h=>Z ?_) (fun h=>Z ?_)
 ·replace h:=AB h; obtain⟨u,w,h⟩:=h
  refine AI (Hv _ _ 117 [] (Still.of rfl) (fun y0 q hq=>Ks y0  q hq) _ w) (Z ?_)
  refine AF ?_
  cases h
  simp only [go_sem]
 ·refine AF ?_
  cases h
  simp only [go_sem]
theorem P5 (n:Nat):(∀a0 u r,Eb n a0 u=some r→Aq Tryz.prog Tryz.f52 [1,1,0,1,0] (.bool r) ⟨[(0,.ro (a0.map Net.ds)),(3,.int .i64 u)],[],[]⟩):=by
 induction n with
 |zero=>exact((fun _ _ _ h=>by rw [Eb] at h; cases h))
 | succ n ih=>
  have ih0:=ih
  ·intro a0 u r h
   rw [Eb] at h
   refine AO rfl rfl (Z ?_)
   refine AZ (Z ?_)
   refine AD h (fun h=>Z ?_) (fun h=>Z ?_)
   ·refine AF ?_
    replace h:=AB h; obtain⟨w,y,h⟩:=h
    refine AM y (Net.ds_len _) (Z ?_)
    replace h:=AB h; obtain⟨q,g,h⟩:=h
    refine AI (RZ _ _ g) (Z ?_)
    refine AF ?_
    refine AD h (fun h=>Z ?_) (fun h=>Z ?_)
    ·cases h
     simp only [go_sem]
    ·refine AF ?_
     exact lpF (ih0 a0 (IntKind.i64.wrap (u+1)) _ h) [] []
   ·refine AF ?_
    cases h
    simp only [go_sem]
theorem T5 (a0 r) (h:Jk a0=some r):AC Tryz.prog 52 [.ro (a0.map Net.ds)] (.bool r):=by
 unfold Jk at h
 refine acF Tryz.func52 mixed (h:=Z ?_)
 refine AD h (fun h=>Z ?_) (fun h=>Z ?_)
 ·cases h
  simp only [go_sem]
 ·refine AF ?_
  exact loF (P5 fuel a0 0 _ h) [] []
end Go.Proofs.YteckcjgpnegkjaaGreatDoor.Ab
