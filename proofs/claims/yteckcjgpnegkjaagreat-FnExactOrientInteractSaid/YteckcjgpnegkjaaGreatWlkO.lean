/-
 The functions do what their models say. Printed by wip/ab/gen.py.
-/
import Derived.Test.YteckcjgpnegkjaaGreatModO
import Derived.Test.YteckcjgpnegkjaaGreatTi2
import Derived.Test.YteckcjgpnegkjaaGreatWlkG
namespace Go.Proofs.YteckcjgpnegkjaaGreat.Ab
set_option linter.defProp false
set_option linter.unusedVariables false
set_option linter.unusedSimpArgs false
set_option maxRecDepth 20000
set_option maxHeartbeats 4000000
open Go.RowKit
theorem Nv (a0 r) (h:Hm a0=some r):AC Tryz.prog 88 [.int .i64 a0] (.bool r):=by
 unfold Hm at h
 refine acF Tryz.func88 mixed (h:=Z ?_)
 refine AB h (fun h=>Z ?_) (fun h=>Z ?_)
 ·refine AF ?_
  cases h
  simp only [go_sem]
 ·refine AF ?_
  cases h
  simp only [go_sem]
theorem QM (n:Nat):(∀a0 a1 u r,CL n a0 a1 u=some r→Af Tryz.prog Tryz.f39 [1,1,0,1,0] (.bool r) ⟨[(0,.rop [.ro (a0.agents.map Agent.ds)] 0),(1,.ro (a1.map AO)),(5,.int .i64 u)],[],[]⟩)∧
    (∀a0 a1 u w r,C5 n a0 a1 u w=some r→Af Tryz.prog Tryz.f39 [1,1,0,1,0,0,1,0,0,1] (.bool r) ⟨[(0,.rop [.ro (a0.agents.map Agent.ds)] 0),(1,.ro (a1.map AO)),(5,.int .i64 u),(35,.bool w)],[],[]⟩):=by
 induction n with
 |zero=>exact⟨(fun _ _ _ _ h=>by rw [CL] at h; cases h),(fun _ _ _ _ _ h=>by rw [C5] at h; cases h)⟩
 | succ n ih=>
  obtain⟨ih0,ih1⟩:=ih
  refine⟨?_,?_⟩
  ·intro a0 a1 u r h
   rw [CL] at h
   refine AN rfl rfl (Z ?_)
   refine AY (Z ?_)
   refine AB h (fun h=>Z ?_) (fun h=>Z ?_)
   ·refine AF ?_
    replace h:=AD h; obtain⟨y,q,h⟩:=h
    refine AL q rfl (Z ?_)
    refine AB h (fun h=>Z ?_) (fun h=>Z ?_)
    ·replace h:=AD h; obtain⟨g,j,h⟩:=h
     refine AL j (Agent.ds_len _) (Z ?_)
     replace h:=AD h; obtain⟨k,b,h⟩:=h
     refine AH (Nv _ _ b) (Z ?_)
     exact AR (ih1 a0 a1 u (!k) _ h) [] []
    ·exact AR (ih1 a0 a1 u false _ h) [] []
   ·refine AF ?_
    cases h
    simp only [go_sem]
  ·intro a0 a1 u w r h
   rw [C5] at h
   refine AN rfl rfl (Z ?_)
   refine AB h (fun h=>Z ?_) (fun h=>Z ?_)
   ·cases h
    simp only [go_sem]
   ·refine AF ?_
    exact lpF (ih0 a0 a1 (IntKind.i64.wrap (u+1)) _ h) [] []
def Q6 (n:Nat):=(QM n).1
theorem VU (a0 a1 r) (h:Hn a0 a1=some r):AC Tryz.prog 39 [.rop (Net.avs a0) 0,.ro (a1.map AO)] (.bool r):=by
 unfold Hn at h
 refine acF Tryz.func39 mixed (h:=Z ?_)
 refine AB h (fun h=>Z ?_) (fun h=>Z ?_)
 ·cases h
  simp only [go_sem]
 ·refine AF ?_
  exact loF (Q6 fuel a0 a1 0 _ h) [] []
theorem Dq (u:Bool) (r:Int) (h:C6 u=some r):Af Tryz.prog Tryz.f134 [1,1,1] (.int .i64 r) ⟨[(5,.bool u)],[],[]⟩:=by
 unfold C6 at h
 refine AN rfl rfl (Z ?_)
 refine AB h (fun h=>Z ?_) (fun h=>Z ?_)
 ·cases h
  simp only [go_sem]
 ·refine AF ?_
  cases h
  simp only [go_sem]
theorem GE (a1:Int) (u:Bool) (r:Int) (h:EN a1 u=some r):Af Tryz.prog Tryz.f134 [1,1,0,1,0,1,1,1,1,1,1,1,1,1] (.int .i64 r) ⟨[(1,.int .i64 a1),(5,.bool false),(23,.bool u)],[],[]⟩:=by
 unfold EN at h
 refine AN rfl rfl (Z ?_)
 refine AB h (fun h=>Z ?_) (fun h=>Z ?_)
 ·exact AR (Dq (decide (0<a1)) _ h) [] []
 ·exact AR (Dq false _ h) [] []
theorem K4 (a0:Int) (a1:Int) (u:Bool) (r:Int) (h:GU a0 a1 u=some r):Af Tryz.prog Tryz.f134 [1,1,0,1,0,1,1,1,1,1,1,1] (.int .i64 r) ⟨[(1,.int .i64 a1),(5,.bool false),(6,.int .i64 a0),(18,.bool u)],[],[]⟩:=by
 unfold GU at h
 refine AN rfl rfl (Z ?_)
 refine AB h (fun h=>Z ?_) (fun h=>Z ?_)
 ·exact AR (Dq (decide (a1=2)) _ h) [] []
 ·refine AB h (fun h=>Z ?_) (fun h=>Z ?_)
  ·exact AR (GE a1 (decide (a0=4)) _ h) [] []
  ·refine AB h (fun h=>Z ?_) (fun h=>Z ?_)
   ·exact AR (GE a1 (decide (a0=8)) _ h) [] []
   ·refine AB h (fun h=>Z ?_) (fun h=>Z ?_)
    ·exact AR (GE a1 (decide (a0=10)) _ h) [] []
    ·exact AR (GE a1 (decide (a0=11)) _ h) [] []
theorem K5 (a0:Int) (a1:Int) (u:Bool) (r:Int) (h:GV a0 a1 u=some r):Af Tryz.prog Tryz.f134 [1,1,0,1,0,1] (.int .i64 r) ⟨[(1,.int .i64 a1),(5,.bool false),(6,.int .i64 a0),(7,.bool u)],[],[]⟩:=by
 unfold GV at h
 refine AN rfl rfl (Z ?_)
 refine AB h (fun h=>Z ?_) (fun h=>Z ?_)
 ·exact AR (Dq true _ h) [] []
 ·refine AB h (fun h=>Z ?_) (fun h=>Z ?_)
  ·exact AR (Dq (decide (a1<2)) _ h) [] []
  ·refine AB h (fun h=>Z ?_) (fun h=>Z ?_)
   ·exact AR (Dq (decide (a1=0)) _ h) [] []
   ·refine AB h (fun h=>Z ?_) (fun h=>Z ?_)
    ·exact AR (K4 a0 a1 (decide (a0=3)) _ h) [] []
    ·exact AR (K4 a0 a1 (decide (a0=7)) _ h) [] []
theorem TT (a0 a1 r) (h:JW a0 a1=some r):AC Tryz.prog 134 [.int .i64 a0,.int .i64 a1] (.int .i64 r):=by
 unfold JW at h
 refine acF Tryz.func134 mixed (h:=Z ?_)
 refine AB h (fun h=>Z ?_) (fun h=>Z ?_)
 ·exact AR (K5 a0 a1 (decide (a0=6)) _ h) [] []
 ·exact AR (K5 a0 a1 (decide (a0=12)) _ h) [] []
theorem VV (a0 a1 a2 r) (h:Kk a0 a1 a2=some r):AC Tryz.prog 100 [.int .i64 a0,.int .i64 a1,.bool a2] (.int .i64 r):=by
 unfold Kk at h
 refine acF Tryz.func100 mixed (h:=Z ?_)
 replace h:=AD h; obtain⟨u,w,h⟩:=h
 refine AH (TT _ _ _ w) (Z ?_)
 refine AF ?_
 refine AB h (fun h=>Z ?_) (fun h=>Z ?_)
 ·cases h
  simp only [go_sem]
 ·refine AF ?_
  cases h
  simp only [go_sem]
theorem Jp (a0 a1 a2 r) (h:HL a0 a1 a2=some r):AC Tryz.prog 60 [.rop (Net.avs a0) 0,.ro (a1.map AO),.agg (Port.avs a2)] (.int .i64 r):=by
 unfold HL at h
 refine acF Tryz.func60 mixed (h:=Z ?_)
 refine AX [] .fin (by kernel_rfl) (Z ?_)
 replace h:=AD h; obtain⟨u,w,h⟩:=h
 refine AL w (Agent.ds_len _) (Z ?_)
 replace h:=AD h; obtain⟨y,q,h⟩:=h
 refine AL q rfl (Z ?_)
 replace h:=AD h; obtain⟨g,j,h⟩:=h
 refine AH (VV _ _ _ _ j) (Z ?_)
 refine AF ?_
 cases h
 simp only [go_sem]
theorem Su (n:Nat):(∀a0 a1 a2 u r,En n a0 a1 a2 u=some r→Af Tryz.prog Tryz.f40 [1,0,1,0] (.int .i64 r) ⟨[(0,.rop [.ro (a0.agents.map Agent.ds)] 0),(1,.ro (a1.map AO)),(2,.ro (a2.map Wire.ds)),(7,.int .i64 u)],[],[]⟩):=by
 induction n with
 |zero=>exact((fun _ _ _ _ _ h=>by rw [En] at h; cases h))
 | succ n ih=>
  have ih0:=ih
  ·intro a0 a1 a2 u r h
   rw [En] at h
   refine AN rfl rfl (Z ?_)
   refine AY (Z ?_)
   refine AB h (fun h=>Z ?_) (fun h=>Z ?_)
   ·refine AF ?_
    refine AX [] .fin (by kernel_rfl) (Z ?_)
    replace h:=AD h; obtain⟨w,y,h⟩:=h
    refine AL y (Wire.ds_len _) (Z ?_)
    replace h:=AD h; obtain⟨q,g,h⟩:=h
    refine AH (Jp _ _ _ _ g) (Z ?_)
    replace h:=AD h; obtain⟨j,k,h⟩:=h
    refine AL k (Wire.ds_len _) (Z ?_)
    replace h:=AD h; obtain⟨b,d,h⟩:=h
    refine AH (Jp _ _ _ _ d) (Z ?_)
    refine AF ?_
    refine AB h (fun h=>Z ?_) (fun h=>Z ?_)
    ·cases h
     simp only [go_sem]
    ·refine AF ?_
     exact lpF (ih0 a0 a1 a2 (IntKind.i64.wrap (u+1)) _ h) [] []
   ·refine AF ?_
    cases h
    simp only [go_sem]
theorem Qs (a0 a1 a2 r) (h:Kl a0 a1 a2=some r):AC Tryz.prog 40 [.rop (Net.avs a0) 0,.ro (a1.map AO),.ro (a2.map Wire.ds)] (.int .i64 r):=by
 unfold Kl at h
 refine acF Tryz.func40 mixed (h:=Z ?_)
 exact loF (Su fuel a0 a1 a2 0 _ h) [] []
theorem Sv (a0 a1 r) (h:IL a0 a1=some r):AC Tryz.prog 89 [.agg (Port.avs a0),.agg (Port.avs a1)] (.bool r):=by
 unfold IL at h
 refine acF Tryz.func89 mixed (h:=Z ?_)
 refine AB h (fun h=>Z ?_) (fun h=>Z ?_)
 ·refine AF ?_
  cases h
  simp only [go_sem]
 ·refine AB h (fun h=>Z ?_) (fun h=>Z ?_)
  ·refine AF ?_
   cases h
   simp only [go_sem]
  ·refine AF ?_
   cases h
   simp only [go_sem]
theorem Ob (n:Nat):(∀a0 u w r,CF n a0 u w=some r→Af Tryz.prog Tryz.f41 [1,1,0,1,0] (.ow (some 4) (r.map Wire.ds)) ⟨[(0,.rop [.ro (a0.agents.map Agent.ds)] 0),(3,.own 1000003000),(4,.int .i64 w)],[(1000003000,some ⟨List.map Wire.ds u,some 4,0,false⟩)],[]⟩)∧
    (∀a0 w y q r,CG n a0 w y q=some r→Af Tryz.prog Tryz.f41 [1,1,0,1,0,0,1,0,0,1,0] (.ow (some 4) (r.map Wire.ds)) ⟨[(0,.rop [.ro (a0.agents.map Agent.ds)] 0),(3,.own 1000005000),(4,.int .i64 w),(5,.int .i64 q)],[(1000005000,some ⟨List.map Wire.ds y,some 4,0,false⟩)],[]⟩):=by
 induction n with
 |zero=>exact⟨(fun _ _ _ _ h=>by rw [CF] at h; cases h),(fun _ _ _ _ _ h=>by rw [CG] at h; cases h)⟩
 | succ n ih=>
  obtain⟨ih0,ih1⟩:=ih
  refine⟨?_,?_⟩
  ·intro a0 u w r h
   rw [CF] at h
   refine AN rfl rfl (Z ?_)
   refine AY (Z ?_)
   refine AB h (fun h=>Z ?_) (fun h=>Z ?_)
   ·refine AF ?_
    exact loF (ih1 a0 w u 0 _ h) [(1000005000,1000003000)] []
   ·refine AF ?_
    cases h
    simp only [go_sem]
  ·intro a0 w y q r h
   rw [CG] at h
   refine AN rfl rfl (Z ?_)
   refine AY (Z ?_)
   replace h:=AD h; obtain⟨g,j,h⟩:=h
   refine AL j (Agent.ds_len _) (Z ?_)
   refine AB h (fun h=>Z ?_) (fun h=>Z ?_)
   ·refine AF ?_
    refine AF ?_
    refine AX [] .fin (by kernel_rfl) (Z ?_)
    replace h:=AD h; obtain⟨k,b,h⟩:=h
    refine AL b (Agent.ds_len _) (Z ?_)
    replace h:=AD h; obtain⟨d,c,h⟩:=h
    refine AL c (Port.ds_len _) (Z ?_)
    replace h:=AD h; obtain⟨e,i,h⟩:=h
    refine AH (Sv _ _ _ i) (Z ?_)
    refine AF ?_
    refine AB h (fun h=>Z ?_) (fun h=>Z ?_)
    ·refine AX [false,false,false,false,false,false,false,false,false,false,false,false,false,false,false,true,true] (Tr.sq [15,16] .fin) (by kernel_rfl) (Z ?_)
     replace h:=AD h; obtain⟨l,t,h⟩:=h
     refine AL t (Agent.ds_len _) (Z ?_)
     replace h:=AD h; obtain⟨s,o,h⟩:=h
     refine AL o (Port.ds_len _) (Z ?_)
     replace h:=AD h; obtain⟨z,u1,h⟩:=h
     have hq_:=An u1
     obtain⟨hv11015a,hv11015b⟩:=hq_
     refine C3 false (Z ?_)
     refine Al (by refine⟨?_,?_⟩ <;> (try simp only [List.length_map,List.length_append,List.length_cons,List.length_nil] at*) <;> (try unfold maxLen) <;> omega) (Z ?_)
     refine Ag (z.map Wire.ds) (by rw [← hv11015b]; simp only [List.map_append,List.map_cons,List.map_nil,List.nil_append,List.append_nil,go_sem,Wire.ds_eq]) (Z ?_)
     refine AF ?_
     exact lpF (ih1 a0 w z (IntKind.i64.wrap (q+1)) _ h) [(1000005000,176240)] []
    ·refine AF ?_
     exact lpF (ih1 a0 w y (IntKind.i64.wrap (q+1)) _ h) [(1000005000,1000005000)] []
   ·refine AF ?_
    exact lpF (ih0 a0 y (IntKind.i64.wrap (w+1)) _ h) [(1000003000,1000005000)] []
def Pe (n:Nat):=(Ob n).1
theorem Nw (a0 r) (h:Ho a0=some r):AC Tryz.prog 41 [.rop (Net.avs a0) 0] (.ow (some 4) (r.map Wire.ds)):=by
 unfold Ho at h
 refine acF Tryz.func41 mixed (h:=Z ?_)
 refine AF ?_
 refine D0 (DN rfl rfl (Pe fuel a0 [] 0 _ h):) (.one ⟨_,.lit 3 2000000000 2000 0 4 false [] _ _ (by (first|rfl|(simp only [go_sem]; rfl))) (by simp only [go_sem]; rfl) (by (first|rfl|(simp only [go_sem]; rfl))) (by (first|rfl|(simp only [go_sem]; rfl))) (by decide) (by decide) (by simp only [go_sem]) (.done _),[(1000003000,2000000000)],[],?_⟩)
 simp only [go_sem]
 all_goals try rfl
theorem Yw (a0 a1 r) (h:NJ a0 a1=some r):AC Tryz.prog 21 [.rop (Net.avs a0) 0,.ro (a1.map AO)] (.bool r):=by
 unfold NJ at h
 refine acF Tryz.func21 mixed (h:=Z ?_)
 replace h:=AD h; obtain⟨u,w,h⟩:=h
 refine AH (VU _ _ _ w) (Z ?_)
 refine AB h (fun h=>Z ?_) (fun h=>Z ?_)
 ·replace h:=AD h; obtain⟨y,q,h⟩:=h
  refine AH (Nw _ _ q) (Z ?_)
  replace h:=AD h; obtain⟨g,j,h⟩:=h
  refine AH (Qs _ _ _ _ j) (Z ?_)
  refine AF ?_
  cases h
  simp only [go_sem]
 ·refine AF ?_
  cases h
  simp only [go_sem]
theorem Nd (n:Nat):(∀a0 a3 u w y (z1:Option Nat) (z2:Option Nat) r,BN n a0 a3 u w y=some r→DB Tryz.prog Tryz.f99 [1,0] (.tup []) [(1,⟨List.map AO r.1,z1,0,false⟩),(2,⟨List.map AO r.2,z2,0,false⟩)] [] ⟨[(0,.rop [.ro (a0.agents.map Agent.ds)] 0),(1,.own 1),(2,.own 2),(3,.ro (a3.map Wire.ds)),(8,.bool y)],[(1,some ⟨List.map AO u,z1,0,false⟩),(2,some ⟨List.map AO w,z2,0,false⟩)],[]⟩)∧
    (∀a0 a3 q g j k (z1:Option Nat) (z2:Option Nat) r,BA n a0 a3 q g j k=some r→DB Tryz.prog Tryz.f99 [1,0,0,1,0,1,1,0] (.tup []) [(1,⟨List.map AO r.1,z1,0,false⟩),(2,⟨List.map AO r.2,z2,0,false⟩)] [] ⟨[(0,.rop [.ro (a0.agents.map Agent.ds)] 0),(1,.own 1),(2,.own 2),(3,.ro (a3.map Wire.ds)),(8,.bool j),(9,.int .i64 k)],[(1,some ⟨List.map AO q,z1,0,false⟩),(2,some ⟨List.map AO g,z2,0,false⟩)],[]⟩)∧
    (∀a0 a3 q g j k d c e i (z1:Option Nat) (z2:Option Nat) r,DR n a0 a3 q g j k d c e i=some r→DB Tryz.prog Tryz.f99 [1,0,0,1,0,1,1,0,0,1,0,0,1,1,1] (.tup []) [(1,⟨List.map AO r.1,z1,0,false⟩),(2,⟨List.map AO r.2,z2,0,false⟩)] [] ⟨[(0,.rop [.ro (a0.agents.map Agent.ds)] 0),(1,.own 1),(2,.own 2),(3,.ro (a3.map Wire.ds)),(8,.bool j),(9,.int .i64 k),(10,.box 1000002500 0),(11,.box 1000002501 0)],[(1,some ⟨List.map AO q,z1,0,false⟩),(2,some ⟨List.map AO g,z2,0,false⟩)],[(1000002500,some [.int .i64 d,.int .i64 c]),(1000002501,some [.int .i64 e,.int .i64 i])]⟩)∧
    (∀a0 a3 q g j k d c e i l (z1:Option Nat) (z2:Option Nat) r,DS n a0 a3 q g j k d c e i l=some r→DB Tryz.prog Tryz.f99 [1,0,0,1,0,1,1,0,0,1,0,0,1,1,1,1] (.tup []) [(1,⟨List.map AO r.1,z1,0,false⟩),(2,⟨List.map AO r.2,z2,0,false⟩)] [] ⟨[(0,.rop [.ro (a0.agents.map Agent.ds)] 0),(1,.own 1),(2,.own 2),(3,.ro (a3.map Wire.ds)),(8,.bool j),(9,.int .i64 k),(10,.box 1000003500 0),(11,.box 1000003501 0),(59,.bool l)],[(1,some ⟨List.map AO q,z1,0,false⟩),(2,some ⟨List.map AO g,z2,0,false⟩)],[(1000003500,some [.int .i64 d,.int .i64 c]),(1000003501,some [.int .i64 e,.int .i64 i])]⟩):=by
 induction n with
 |zero=>exact⟨(fun _ _ _ _ _ _ _ _ h=>by rw [BN] at h; cases h),(fun _ _ _ _ _ _ _ _ _ h=>by rw [BA] at h; cases h),(fun _ _ _ _ _ _ _ _ _ _ _ _ _ h=>by rw [DR] at h; cases h),(fun _ _ _ _ _ _ _ _ _ _ _ _ _ _ h=>by rw [DS] at h; cases h)⟩
 | succ n ih=>
  obtain⟨ih0,ih1,ih2,ih3⟩:=ih
  refine⟨?_,?_,?_,?_⟩
  ·intro a0 a3 u w y z1 z2 r h
   rw [BN] at h
   refine Aq rfl rfl (Z ?_)
   refine AY (Z ?_)
   refine AB h (fun h=>Z ?_) (fun h=>Z ?_)
   ·refine AF ?_
    exact loG (ih1 a0 a3 u w false 0 z1 z2 _ h) [(1,1),(2,2)] []
   ·cases h
    refine BJ (.done _) [(1,1),(2,2)] [] ?_
    simp only [go_sem]
  ·intro a0 a3 q g j k z1 z2 r h
   rw [BA] at h
   refine Aq rfl rfl (Z ?_)
   refine AY (Z ?_)
   refine AB h (fun h=>Z ?_) (fun h=>Z ?_)
   ·refine AF ?_
    refine Al (by decide) (Z ?_)
    replace h:=AD h; obtain⟨t,s,h⟩:=h
    refine AL s (Wire.ds_len _) (Z ?_)
    refine AF ?_
    refine Al (by decide) (Z ?_)
    replace h:=AD h; obtain⟨o,z,h⟩:=h
    refine AL z (Wire.ds_len _) (Z ?_)
    refine AF ?_
    refine Al (by decide) (Z ?_)
    refine AB h (fun h=>Z ?_) (fun h=>Z ?_)
    ·refine Al (by decide) (Z ?_)
     replace h:=AD h; obtain⟨u1,u2,h⟩:=h
     refine AL u2 (Wire.ds_len _) (Z ?_)
     refine Al (by decide) (Z ?_)
     replace h:=AD h; obtain⟨u3,u4,h⟩:=h
     refine AL u4 (Wire.ds_len _) (Z ?_)
     exact BB (ih2 a0 a3 q g j k u1.b.agent u1.b.slot u3.a.agent u3.a.slot z1 z2 _ h) [(1,1),(2,2)] [(1000002500,7006),(1000002501,8006)]
    ·exact BB (ih2 a0 a3 q g j k t.a.agent t.a.slot o.b.agent o.b.slot z1 z2 _ h) [(1,1),(2,2)] [(1000002500,7006),(1000002501,8006)]
   ·exact lpG (ih0 a0 a3 q g j z1 z2 _ h) [(1,1),(2,2)] []
  ·intro a0 a3 q g j k d c e i z1 z2 r h
   rw [DR] at h
   refine Aq rfl rfl (Z ?_)
   replace h:=AD h; obtain⟨u5,u6,h⟩:=h
   refine AL u6 rfl (Z ?_)
   refine Aa (AS u6) (Z ?_)
   refine AB h (fun h=>Z ?_) (fun h=>Z ?_)
   ·replace h:=AD h; obtain⟨u7,u8,h⟩:=h
    refine AL u8 rfl (Z ?_)
    refine Aa (AS u8) (Z ?_)
    exact BB (ih3 a0 a3 q g j k d c e i (!u7) z1 z2 _ h) [(1,1),(2,2)] [(1000003500,1000002500),(1000003501,1000002501)]
   ·exact BB (ih3 a0 a3 q g j k d c e i false z1 z2 _ h) [(1,1),(2,2)] [(1000003500,1000002500),(1000003501,1000002501)]
  ·intro a0 a3 q g j k d c e i l z1 z2 r h
   rw [DS] at h
   refine Aq rfl rfl (Z ?_)
   refine AB h (fun h=>Z ?_) (fun h=>Z ?_)
   ·replace h:=AD h; obtain⟨u9,u10,h⟩:=h
    refine AL u10 rfl (Z ?_)
    replace h:=AD h; obtain⟨u11,u12,h⟩:=h
    refine Aa (AS u10) (Z ?_)
    refine Ag (u11.map AO) (by rw [← Ai u12]; simp only [List.map_set,go_sem,slD]) (Z ?_)
    refine AX [false,false,false,false,false,false,false,false,false,false,false,false,false,true] (Tr.sq [13] .fin) (by kernel_rfl) (Z ?_)
    replace h:=AD h; obtain⟨u13,u14,h⟩:=h
    refine AH (Jp _ _ _ _ u14) (Z ?_)
    replace h:=AD h; obtain⟨u15,u16,h⟩:=h
    refine AH (Jp _ _ _ _ u16) (Z ?_)
    replace h:=AD h; obtain⟨u17,u18,h⟩:=h
    refine AL u18 rfl (Z ?_)
    replace h:=AD h; obtain⟨u19,u20,h⟩:=h
    refine Aa (AS u18) (Z ?_)
    refine Ag (u19.map AO) (by rw [← Ai u20]; simp only [List.map_set,go_sem,slD]) (Z ?_)
    refine AF ?_
    refine AF ?_
    exact lpG (ih1 a0 a3 u11 u19 true (IntKind.i64.wrap (k+1)) z1 z2 _ h) [(1,1),(2,2)] []
   ·refine AF ?_
    exact lpG (ih1 a0 a3 q g j (IntKind.i64.wrap (k+1)) z1 z2 _ h) [(1,1),(2,2)] []
def Oc (n:Nat):=(Nd n).1
theorem Mx (a0 a1 a2 a3) (z1:Option Nat) (z2:Option Nat) (r) (h:Fn a0 a1 a2 a3=some r):AG Tryz.prog 99 [.rop [.ro (a0.agents.map Agent.ds)] 0,.own 1,.own 2,.ro (a3.map Wire.ds)] [(1,⟨List.map AO a1,z1,0,false⟩),(2,⟨List.map AO a2,z2,0,false⟩)] [] (.tup []) [(1,⟨List.map AO r.1,z1,0,false⟩),(2,⟨List.map AO r.2,z2,0,false⟩)] [] :=by
 unfold Fn at h
 refine agF Tryz.func99 mixed (h:=Z ?_)
 exact loG (Oc fuel a0 a3 a1 a2 true z1 z2 _ h) [(1,1),(2,2)] []
theorem Pf (n:Nat):(∀a0 u w y q r,CH n a0 u w y q=some r→Af Tryz.prog Tryz.f59 [1,1,1,1,1,1,0,1,0] (.tup [.ow (some 1) (r.1.map AO),.bool r.2]) ⟨[(0,.rop [.ro (a0.agents.map Agent.ds)] 0),(4,.own 1000003000),(5,.own 1000003001),(6,.own 1000003002),(8,.int .i64 q)],[(1000003000,some ⟨List.map Wire.ds u,some 4,0,false⟩),(1000003001,some ⟨List.map AO w,some 1,0,false⟩),(1000003002,some ⟨List.map AO y,some 1,0,false⟩)],[]⟩):=by
 induction n with
 |zero=>exact((fun _ _ _ _ _ _ h=>by rw [CH] at h; cases h))
 | succ n ih=>
  have ih0:=ih
  ·intro a0 u w y q r h
   rw [CH] at h
   refine AN rfl rfl (Z ?_)
   refine AY (Z ?_)
   refine AB h (fun h=>Z ?_) (fun h=>Z ?_)
   ·refine AF ?_
    replace h:=AD h; obtain⟨g,j,h⟩:=h
    refine AL j rfl (Z ?_)
    refine Aa (AS j) (Z ?_)
    refine AB h (fun h=>Z ?_) (fun h=>Z ?_)
    ·replace h:=AD h; obtain⟨k,b,h⟩:=h
     refine AL b rfl (Z ?_)
     replace h:=AD h; obtain⟨d,c,h⟩:=h
     refine Aa (AS b) (Z ?_)
     refine Ag (d.map AO) (by rw [← Ai c]; simp only [List.map_set,go_sem,slD]) (Z ?_)
     replace h:=AD h; obtain⟨e,i,h⟩:=h
     refine caG ⟨[],[(1,1000003001),(2,1000003002)],[],[],[],false⟩ (Mx _ _ _ _ (some 1) (some 1) _ i) (Z ?_)
     refine AF ?_
     exact lpF (ih0 a0 u e.1 e.2 (IntKind.i64.wrap (q+1)) _ h) [(1000003000,1000003000),(1000003001,1000003001),(1000003002,1000003002)] []
    ·refine AF ?_
     exact lpF (ih0 a0 u w y (IntKind.i64.wrap (q+1)) _ h) [(1000003000,1000003000),(1000003001,1000003001),(1000003002,1000003002)] []
   ·refine AF ?_
    replace h:=AD h; obtain⟨l,t,h⟩:=h
    refine AH (Qs _ _ _ _ t) (Z ?_)
    refine AF ?_
    cases h
    simp only [go_sem]
theorem Pg (n:Nat):(∀a0 u w y q r,Cb n a0 u w y q=some r→Af Tryz.prog Tryz.f59 [1,1,1,1,0,1,0] (.tup [.ow (some 1) (r.1.map AO),.bool r.2]) ⟨[(0,.rop [.ro (a0.agents.map Agent.ds)] 0),(4,.own 1000001000),(5,.own 1000001001),(6,.own 1000001002),(7,.int .i64 q)],[(1000001000,some ⟨List.map Wire.ds u,some 4,0,false⟩),(1000001001,some ⟨List.map AO w,some 1,0,false⟩),(1000001002,some ⟨List.map AO y,some 1,0,false⟩)],[]⟩):=by
 induction n with
 |zero=>exact((fun _ _ _ _ _ _ h=>by rw [Cb] at h; cases h))
 | succ n ih=>
  have ih0:=ih
  ·intro a0 u w y q r h
   rw [Cb] at h
   refine AN rfl rfl (Z ?_)
   refine AY (Z ?_)
   refine AB h (fun h=>Z ?_) (fun h=>Z ?_)
   ·refine AF ?_
    replace h:=AD h; obtain⟨g,j,h⟩:=h
    refine AL j (Agent.ds_len _) (Z ?_)
    replace h:=AD h; obtain⟨k,b,h⟩:=h
    refine AH (Nv _ _ b) (Z ?_)
    replace h:=AD h; obtain⟨d,c,h⟩:=h
    have hq_:=An c
    obtain⟨hv8012a,hv8012b⟩:=hq_
    refine C3 false (Z ?_)
    refine Al (by refine⟨?_,?_⟩ <;> (try simp only [List.length_map,List.length_append,List.length_cons,List.length_nil] at*) <;> (try unfold maxLen) <;> omega) (Z ?_)
    refine Ag (d.map AO) (by rw [← hv8012b]; simp only [List.map_append,List.map_cons,List.map_nil,List.nil_append,List.append_nil,go_sem,slD]) (Z ?_)
    refine AF ?_
    replace h:=AD h; obtain⟨e,i,h⟩:=h
    have hq_:=An i
    obtain⟨hv9002a,hv9002b⟩:=hq_
    refine C3 false (Z ?_)
    refine Al (by refine⟨?_,?_⟩ <;> (try simp only [List.length_map,List.length_append,List.length_cons,List.length_nil] at*) <;> (try unfold maxLen) <;> omega) (Z ?_)
    refine Ag (e.map AO) (by rw [← hv9002b]; simp only [List.map_append,List.map_cons,List.map_nil,List.nil_append,List.append_nil,go_sem,slD]) (Z ?_)
    refine AF ?_
    exact lpF (ih0 a0 u d e (IntKind.i64.wrap (q+1)) _ h) [(1000001000,1000001000),(1000001001,128192),(1000001002,144032)] []
   ·refine AF ?_
    replace h:=AD h; obtain⟨l,t,h⟩:=h
    refine caG ⟨[],[(1,1000001001),(2,1000001002)],[],[],[],false⟩ (Mx _ _ _ _ (some 1) (some 1) _ t) (Z ?_)
    refine AF ?_
    exact loF (Pf fuel a0 u l.1 l.2 0 _ h) [(1000003000,1000001000),(1000003001,1000001001),(1000003002,1000001002)] []
theorem Sw (a0 r) (h:Fo a0=some r):AC Tryz.prog 59 [.rop (Net.avs a0) 0] (.tup [.ow (some 1) (r.1.map AO),.bool r.2]):=by
 unfold Fo at h
 refine acF Tryz.func59 mixed (h:=Z ?_)
 replace h:=AD h; obtain⟨u,w,h⟩:=h
 refine AH (Nw _ _ w) (Z ?_)
 refine AF ?_
 refine AF ?_
 refine AF ?_
 refine D0 (DN rfl rfl (Pg fuel a0 u [] [] 0 _ h):) (.one ⟨_,.lit 5 2000000000 3000 0 1 false [] _ _ (by (first|rfl|(simp only [go_sem]; rfl))) (by simp only [go_sem]; rfl) (by (first|rfl|(simp only [go_sem]; rfl))) (by (first|rfl|(simp only [go_sem]; rfl))) (by decide) (by decide) (by simp only [go_sem]) (.lit 6 2000000001 4000 0 1 false [] _ _ (by (first|rfl|(simp only [go_sem]; rfl))) (by simp only [go_sem]; rfl) (by (first|rfl|(simp only [go_sem]; rfl))) (by (first|rfl|(simp only [go_sem]; rfl))) (by decide) (by decide) (by simp only [go_sem]) (.done _)),[(1000001000,32016),(1000001001,2000000000),(1000001002,2000000001)],[],?_⟩)
 simp only [go_sem]
 all_goals try rfl
theorem QN (n:Nat):(∀a1 a2 u w y q r,Dg n a1 a2 u w y q=some r→Af Tryz.prog Tryz.f25 [1,1,1,1,1,1,1,0,1,0,1,0] (.tup [.ow none (r.1.map AO),.bool r.2]) ⟨[(1,.rop [.ro (a1.agents.map Agent.ds)] 0),(2,.ro (a2.map AO)),(4,.int .i64 u.2),(13,.rop [.int .i64 w.kind,.int .i64 w.level,.int .i64 w.value,.ro (w.data.map Ar),.ro (w.ports.map Port.ds)] 0),(15,.own 1000005000),(19,.int .i64 q)],[(1000005000,some ⟨List.map AO y,some 1,0,false⟩)],[]⟩):=by
 induction n with
 |zero=>exact((fun _ _ _ _ _ _ _ h=>by rw [Dg] at h; cases h))
 | succ n ih=>
  have ih0:=ih
  ·intro a1 a2 u w y q r h
   rw [Dg] at h
   refine AN rfl rfl (Z ?_)
   refine AY (Z ?_)
   refine AB h (fun h=>Z ?_) (fun h=>Z ?_)
   ·refine AF ?_
    replace h:=AD h; obtain⟨g,j,h⟩:=h
    refine AH (AT _ _ _ j) (Z ?_)
    replace h:=AD h; obtain⟨k,b,h⟩:=h
    refine AH (Jp _ _ _ _ b) (Z ?_)
    replace h:=AD h; obtain⟨d,c,h⟩:=h
    have hq_:=An c
    obtain⟨hv24009a,hv24009b⟩:=hq_
    refine C3 false (Z ?_)
    refine Al (by refine⟨?_,?_⟩ <;> (try simp only [List.length_map,List.length_append,List.length_cons,List.length_nil] at*) <;> (try unfold maxLen) <;> omega) (Z ?_)
    refine Ag (d.map AO) (by rw [← hv24009b]; simp only [List.map_append,List.map_cons,List.map_nil,List.nil_append,List.append_nil,go_sem,slD]) (Z ?_)
    refine AF ?_
    exact lpF (ih0 a1 a2 u w d (IntKind.i64.wrap (q+1)) _ h) [(1000005000,384144)] []
   ·refine AF ?_
    cases h
    simp only [go_sem]
theorem K6 (a1:Net) (a2:List Bool) (u:List Bool) (w:Int × Int) (y:Agent) (q:Bool) (r:(List Bool) × Bool) (h:EO a1 a2 u w y q=some r):Af Tryz.prog Tryz.f25 [1,1,1,1,1,1,1,0,1] (.tup [.ow none (r.1.map AO),.bool r.2]) ⟨[(1,.rop [.ro (a1.agents.map Agent.ds)] 0),(2,.ro (a2.map AO)),(4,.int .i64 w.2),(13,.rop [.int .i64 y.kind,.int .i64 y.level,.int .i64 y.value,.ro (y.data.map Ar),.ro (y.ports.map Port.ds)] 0),(15,.own 1000003000),(93,.bool q)],[(1000003000,some ⟨List.map AO u,some 1,0,false⟩)],[]⟩:=by
 unfold EO at h
 refine AN rfl rfl (Z ?_)
 refine AB h (fun h=>Z ?_) (fun h=>Z ?_)
 ·exact loF (QN fuel a1 a2 w y u 1 _ h) [(1000005000,1000003000)] []
 ·refine AF ?_
  cases h
  simp only [go_sem]
theorem GF (a1:Net) (a2:List Bool) (u:Int × Int) (w:Agent) (y:Int) (q:List Bool) (r:(List Bool) × Bool) (h:CZ a1 a2 u w y q=some r):Af Tryz.prog Tryz.f25 [1,1,1,1,1,1,1] (.tup [.ow none (r.1.map AO),.bool r.2]) ⟨[(1,.rop [.ro (a1.agents.map Agent.ds)] 0),(2,.ro (a2.map AO)),(4,.int .i64 u.2),(13,.rop [.int .i64 w.kind,.int .i64 w.level,.int .i64 w.value,.ro (w.data.map Ar),.ro (w.ports.map Port.ds)] 0),(14,.int .i64 y),(15,.own 1000001000)],[(1000001000,some ⟨List.map AO q,some 1,0,false⟩)],[]⟩:=by
 unfold CZ at h
 refine AN rfl rfl (Z ?_)
 refine AB h (fun h=>Z ?_) (fun h=>Z ?_)
 ·exact AR (K6 a1 a2 q u w true _ h) [(1000003000,1000001000)] []
 ·exact AR (K6 a1 a2 q u w (decide (y=4)) _ h) [(1000003000,1000001000)] []
theorem QO (n:Nat):(∀a1 a2 u w y q g r,C7 n a1 a2 u w y q g=some r→Af Tryz.prog Tryz.f25 [1,1,1,1,1,1,0,1,0,1,1,1,1,1,0,1,0] (.tup [.ow none (r.1.map AO),.bool r.2]) ⟨[(1,.rop [.ro (a1.agents.map Agent.ds)] 0),(2,.ro (a2.map AO)),(4,.int .i64 u.2),(13,.rop [.int .i64 w.kind,.int .i64 w.level,.int .i64 w.value,.ro (w.data.map Ar),.ro (w.ports.map Port.ds)] 0),(14,.int .i64 y),(15,.own 1000002000),(16,.int .i64 g)],[(1000002000,some ⟨List.map AO q,some 1,0,false⟩)],[]⟩):=by
 induction n with
 |zero=>exact((fun _ _ _ _ _ _ _ _ h=>by rw [C7] at h; cases h))
 | succ n ih=>
  have ih0:=ih
  ·intro a1 a2 u w y q g r h
   rw [C7] at h
   refine AN rfl rfl (Z ?_)
   refine AY (Z ?_)
   refine AB h (fun h=>Z ?_) (fun h=>Z ?_)
   ·refine AF ?_
    replace h:=AD h; obtain⟨j,k,h⟩:=h
    have hq_:=An k
    obtain⟨hv16002a,hv16002b⟩:=hq_
    refine C3 false (Z ?_)
    refine Al (by refine⟨?_,?_⟩ <;> (try simp only [List.length_map,List.length_append,List.length_cons,List.length_nil] at*) <;> (try unfold maxLen) <;> omega) (Z ?_)
    refine Ag (j.map AO) (by rw [← hv16002b]; simp only [List.map_append,List.map_cons,List.map_nil,List.nil_append,List.append_nil,go_sem,slD]) (Z ?_)
    refine AF ?_
    exact lpF (ih0 a1 a2 u w y j (IntKind.i64.wrap (g - 1)) _ h) [(1000002000,256032)] []
   ·exact AR (GF a1 a2 u w y q _ h) [(1000001000,1000002000)] []
theorem TU (a0 a1 a2 a3 a4 r) (h:Hp a0 a1 a2 a3 a4=some r):AC Tryz.prog 25 [.ro (a0.map Net.ds),.rop (Net.avs a1) 0,.ro (a2.map AO),.int .i64 a3,.int .i64 a4] (.tup [.ow none (r.1.map AO),.bool r.2]):=by
 unfold Hp at h
 refine acF Tryz.func25 mixed (h:=Z ?_)
 replace h:=AD h; obtain⟨u,w,h⟩:=h
 refine AH (KN _ _ _ _ w) (Z ?_)
 refine AF ?_
 replace h:=AD h; obtain⟨y,q,h⟩:=h
 refine AL q (Agent.ds_len _) (Z ?_)
 replace h:=AD h; obtain⟨g,k,h⟩:=h
 refine AL k (Agent.ds_len _) (Z ?_)
 replace h:=AD h; obtain⟨b,d,h⟩:=h
 refine AH (KO _ _ _ d) (Z ?_)
 refine AF ?_
 refine AF ?_
 refine AB h (fun h=>Z ?_) (fun h=>Z ?_)
 ·refine AX [false,false,false,false,false,false,false,false,false,false,true,true] (Tr.sq [10,11] .fin) (by kernel_rfl) (Z ?_)
  replace h:=AD h; obtain⟨c,e,h⟩:=h
  refine AL e rfl (Z ?_)
  replace h:=AD h; obtain⟨l,t,h⟩:=h
  refine AL t rfl (Z ?_)
  replace h:=AD h; obtain⟨s,o,h⟩:=h
  have hq_:=An o
  obtain⟨hv9010a,hv9010b⟩:=hq_
  refine C3 false (Z ?_)
  refine Al (by show (2:Nat)≤maxLen; unfold maxLen; omega) (Z ?_)
  refine Ag (s.map AO) (by rw [← hv9010b]; simp only [List.map_append,List.map_cons,List.map_nil,List.nil_append,List.append_nil,go_sem,slD]) (Z ?_)
  exact AR (GF a1 a2 u g b s _ h) [(1000001000,144160)] []
 ·refine AB h (fun h=>Z ?_) (fun h=>Z ?_)
  ·replace h:=AD h; obtain⟨z,u1,h⟩:=h
   have hq_:=An u1
   obtain⟨hv11002a,hv11002b⟩:=hq_
   refine C3 false (Z ?_)
   refine Al (by show (1:Nat)≤maxLen; unfold maxLen; omega) (Z ?_)
   refine Ag (z.map AO) (by rw [← hv11002b]; simp only [List.map_append,List.map_cons,List.map_nil,List.nil_append,List.append_nil,go_sem,slD]) (Z ?_)
   exact AR (GF a1 a2 u g b z _ h) [(1000001000,176032)] []
  ·refine AB h (fun h=>Z ?_) (fun h=>Z ?_)
   ·replace h:=AD h; obtain⟨u2,u3,h⟩:=h
    refine AH (Ha _ _ u3) (Z ?_)
    refine AF ?_
    refine D0 (DN rfl rfl (QO fuel a1 a2 u g b [] u2 _ h):) (.one ⟨_,.lit 15 2000000000 6000 0 1 false [] _ _ (by (first|rfl|(simp only [go_sem]; rfl))) (by simp only [go_sem]; rfl) (by (first|rfl|(simp only [go_sem]; rfl))) (by (first|rfl|(simp only [go_sem]; rfl))) (by decide) (by decide) (by simp only [go_sem]) (.done _),[(1000002000,2000000000)],[],?_⟩)
    simp only [go_sem]
    all_goals try rfl
   ·refine AB h (fun h=>Z ?_) (fun h=>Z ?_)
    ·replace h:=AD h; obtain⟨u4,u5,h⟩:=h
     refine AL u5 (Net.ds_len _) (Z ?_)
     replace h:=AD h; obtain⟨u6,u7,h⟩:=h
     refine AH (Sw _ _ u7) (Z ?_)
     refine AF ?_
     replace h:=AD h; obtain⟨u8,u9,h⟩:=h
     refine cn (i:=1) (j:=((List.length u6.1 :Nat):Int)) (r:=List.map AO u8) (by rfl) (by rfl) (by (first|(simp only [go_sem]; done)|(simp only [go_sem]; rfl)|rfl|(simp only [go_sem]; omega))) (by (first|(simp only [go_sem]; done)|(simp only [go_sem]; rfl)|rfl|(simp only [go_sem]; omega))) (by exact J2 (by intro x; exact rfl) _) (by rfl) (by simp only [go_sem,List.length_map]) (Ux u9) (by rfl) (Z ?_)
     cases h
     simp only [go_sem]
    ·refine Us (DN rfl rfl (GF a1 a2 u g b [] _ h):) (.one ⟨_,.lit 15 2000000000 6000 0 1 false [] _ _ (by (first|rfl|(simp only [go_sem]; rfl))) (by simp only [go_sem]; rfl) (by (first|rfl|(simp only [go_sem]; rfl))) (by (first|rfl|(simp only [go_sem]; rfl))) (by decide) (by decide) (by simp only [go_sem]) (.done _),[(1000001000,2000000000)],[],?_⟩)
     simp only [go_sem]
     all_goals try rfl
theorem Li (n:Nat):(∀a2 u w y q r,BL n a2 u w y q=some r→Af Tryz.prog Tryz.f6 [1,1,1,1,1,1,1,1,1,1,0,1,0] (.tup [.ow (some 1) (r.1.map AO),.int .i64 r.2]) ⟨[(2,.ro (a2.map AO)),(12,.box 1000002500 0),(13,.own 1000002001),(15,.own 1000002002),(16,.int .i64 q)],[(1000002000,some ⟨List.map Agent.ds u.2.agents,some 5,0,false⟩),(1000002001,some ⟨List.map AO w.1,none,0,false⟩),(1000002002,some ⟨List.map AO y,some 1,0,false⟩)],[(1000002500,some [.own 1000002000])]⟩):=by
 induction n with
 |zero=>exact((fun _ _ _ _ _ _ h=>by rw [BL] at h; cases h))
 | succ n ih=>
  have ih0:=ih
  ·intro a2 u w y q r h
   rw [BL] at h
   refine AN rfl rfl (Z ?_)
   refine AY (Z ?_)
   refine AB h (fun h=>Z ?_) (fun h=>Z ?_)
   ·refine AF ?_
    replace h:=AD h; obtain⟨g,j,h⟩:=h
    refine AL j (Agent.ds_len _) (Z ?_)
    refine Aa (AS j) (Z ?_)
    refine AB h (fun h=>Z ?_) (fun h=>Z ?_)
    ·replace h:=AD h; obtain⟨k,b,h⟩:=h
     refine AL b rfl (Z ?_)
     replace h:=AD h; obtain⟨d,c,h⟩:=h
     have hq_:=An c
     obtain⟨hv19006a,hv19006b⟩:=hq_
     refine C3 false (Z ?_)
     refine Al (by refine⟨?_,?_⟩ <;> (try simp only [List.length_map,List.length_append,List.length_cons,List.length_nil] at*) <;> (try unfold maxLen) <;> omega) (Z ?_)
     refine Ag (d.map AO) (by rw [← hv19006b]; simp only [List.map_append,List.map_cons,List.map_nil,List.nil_append,List.append_nil,go_sem,slD]) (Z ?_)
     refine AF ?_
     exact lpF (ih0 a2 u w d (IntKind.i64.wrap (q+1)) _ h) [(1000002000,1000002000),(1000002001,1000002001),(1000002002,304096)] [(1000002500,1000002500)]
    ·refine AF ?_
     exact lpF (ih0 a2 u w y (IntKind.i64.wrap (q+1)) _ h) [(1000002000,1000002000),(1000002001,1000002001),(1000002002,1000002002)] [(1000002500,1000002500)]
   ·refine AF ?_
    replace h:=AD h; obtain⟨e,i,h⟩:=h
    have hq_:=An i
    obtain⟨hv20002a,hv20002b⟩:=hq_
    refine C3 false (Z ?_)
    refine Al (J2 (by intro x; rfl) _) (Z ?_)
    refine Al (by refine⟨?_,?_⟩ <;> (try simp only [List.length_map,List.length_append,List.length_cons,List.length_nil] at*) <;> (try unfold maxLen) <;> omega) (Z ?_)
    refine Ag (e.map AO) (by rw [← hv20002b]; simp only [List.map_append,List.map_cons,List.map_nil,List.nil_append,List.append_nil,go_sem,slD]) (Z ?_)
    refine AF ?_
    cases h
    simp only [go_sem]
theorem FG (a0:List Net) (a1:Net) (a2:List Bool) (a3:Int) (u:Bool) (r:(List Bool) × Int) (h:B7 a0 a1 a2 a3 u=some r):Af Tryz.prog Tryz.f6 [1,0,1] (.tup [.ow (some 1) (r.1.map AO),.int .i64 r.2]) ⟨[(0,.ro (a0.map Net.ds)),(2,.ro (a2.map AO)),(3,.int .i64 a3),(5,.box 1000000500 0),(28,.bool u)],[],[(1000000500,some [.ro (a1.agents.map Agent.ds)])]⟩:=by
 unfold B7 at h
 refine AN rfl rfl (Z ?_)
 refine AB h (fun h=>Z ?_) (fun h=>Z ?_)
 ·cases h
  simp only [go_sem]
 ·refine AF ?_
  replace h:=AD h; obtain⟨w,y,h⟩:=h
  refine AH (VT _ _ _ y) (Z ?_)
  refine AF ?_
  refine AB h (fun h=>Z ?_) (fun h=>Z ?_)
  ·cases h
   simp only [go_sem]
  ·refine AF ?_
   replace h:=AD h; obtain⟨q,g,h⟩:=h
   refine AH (Xc _ _ g) (Z ?_)
   refine AF ?_
   replace h:=AD h; obtain⟨j,k,h⟩:=h
   refine caG ⟨[],[(1001,112000)],[(1,7001,0)],[(1501,128080)],[],true⟩ (Yv _ _ _ _ _ k) (Z ?_)
   refine AF ?_
   refine AB h (fun h=>Z ?_) (fun h=>Z ?_)
   ·cases h
    simp only [go_sem]
   ·refine AF ?_
    replace h:=AD h; obtain⟨b,d,h⟩:=h
    refine AH (TU _ _ _ _ _ _ d) (Z ?_)
    refine AF ?_
    refine AB h (fun h=>Z ?_) (fun h=>Z ?_)
    ·cases h
     simp only [go_sem]
    ·refine AF ?_
     refine AF ?_
     refine D0 (DN rfl rfl (Li fuel a2 j b [] 0 _ h):) (.one ⟨_,.lit 15 2000000000 14000 0 1 false [] _ _ (by (first|rfl|(simp only [go_sem]; rfl))) (by simp only [go_sem]; rfl) (by (first|rfl|(simp only [go_sem]; rfl))) (by (first|rfl|(simp only [go_sem]; rfl))) (by decide) (by decide) (by simp only [go_sem]) (.done _),[(1000002000,128080),(1000002001,176096),(1000002002,2000000000)],[(1000002500,7001)],?_⟩)
     simp only [go_sem]
     all_goals try rfl
theorem Ne (a0 a1 a2 a3 r) (h:Ed a0 a1 a2 a3=some r):AC Tryz.prog 6 [.ro (a0.map Net.ds),.agg (Net.avs a1),.ro (a2.map AO),.int .i64 a3] (.tup [.ow (some 1) (r.1.map AO),.int .i64 r.2]):=by
 unfold Ed at h
 refine acF Tryz.func6 mixed (h:=Z ?_)
 replace h:=AD h; obtain⟨u,w,h⟩:=h
 refine AH (VW _ _ w) (Z ?_)
 refine AB h (fun h=>Z ?_) (fun h=>Z ?_)
 ·exact AR (FG a0 a1 a2 a3 true _ h) [] [(1000000500,1000)]
 ·replace h:=AD h; obtain⟨y,q,h⟩:=h
  refine AH (Oa _ _ q) (Z ?_)
  refine AB h (fun h=>Z ?_) (fun h=>Z ?_)
  ·exact AR (FG a0 a1 a2 a3 true _ h) [] [(1000000500,1000)]
  ·replace h:=AD h; obtain⟨g,j,h⟩:=h
   refine AH (Yw _ _ _ j) (Z ?_)
   exact AR (FG a0 a1 a2 a3 (!g) _ h) [] [(1000000500,1000)]
theorem Q7 (n:Nat):(∀a0 u w r,E3 n a0 u w=some r→Af Tryz.prog Tryz.f9 [1,1,0,1,0] (.ow (some 1) (r.map AO)) ⟨[(0,.ro (a0.map AO)),(3,.own 1000001000),(4,.int .i64 w)],[(1000001000,some ⟨List.map AO u,some 1,0,false⟩)],[]⟩):=by
 induction n with
 |zero=>exact((fun _ _ _ _ h=>by rw [E3] at h; cases h))
 | succ n ih=>
  have ih0:=ih
  ·intro a0 u w r h
   rw [E3] at h
   refine AN rfl rfl (Z ?_)
   refine AY (Z ?_)
   refine AB h (fun h=>Z ?_) (fun h=>Z ?_)
   ·refine AF ?_
    replace h:=AD h; obtain⟨y,q,h⟩:=h
    refine AL q rfl (Z ?_)
    replace h:=AD h; obtain⟨g,j,h⟩:=h
    refine AL j rfl (Z ?_)
    replace h:=AD h; obtain⟨k,b,h⟩:=h
    refine Aa (AS j) (Z ?_)
    refine Ag (k.map AO) (by rw [← Ai b]; simp only [List.map_set,go_sem,slD]) (Z ?_)
    refine AF ?_
    exact lpF (ih0 a0 k (IntKind.i64.wrap (w+1)) _ h) [(1000001000,1000001000)] []
   ·refine AF ?_
    cases h
    simp only [go_sem]
theorem Ir (a0 r) (h:F6 a0=some r):AC Tryz.prog 9 [.ro (a0.map AO)] (.ow (some 1) (r.map AO)):=by
 unfold F6 at h
 refine acF Tryz.func9 mixed (h:=Z ?_)
 replace h:=AD h; obtain⟨u,w,h⟩:=h
 have hq_:=G8 w
 obtain⟨hv2002a,hv2002b,hv2002c⟩:=hq_
 refine Al (by refine⟨?_,?_,?_⟩ <;> omega) (Z ?_)
 refine Ag (u.map AO) (by rw [← hv2002c]; simp only [List.map_replicate,go_sem,slD]) (Z ?_)
 refine AF ?_
 exact loF (Q7 fuel a0 u 0 _ h) [(1000001000,32032)] []
theorem FM (a0 r) (h:EF a0=some r):AC Tryz.prog 121 [.int .i64 a0] (.bool r):=by
 unfold EF at h
 refine acF Tryz.func121 mixed (h:=Z ?_)
 refine AB h (fun h=>Z ?_) (fun h=>Z ?_)
 ·refine AF ?_
  cases h
  simp only [go_sem]
 ·refine AF ?_
  cases h
  simp only [go_sem]
theorem Ph (n:Nat):(∀a0 a1 u r,C8 n a0 a1 u=some r→Af Tryz.prog Tryz.f110 [1,1,0,1,0] (.bool r) ⟨[(0,.rop [.ro (a0.agents.map Agent.ds)] 0),(15,.ro (a1.map AO)),(16,.int .i64 (a1.length:Int)),(17,.int .i64 u)],[],[]⟩)∧
    (∀a0 a1 u w r,Dh n a0 a1 u w=some r→Af Tryz.prog Tryz.f110 [1,1,0,1,0,0,1,1,0,0,1,1] (.bool r) ⟨[(0,.rop [.ro (a0.agents.map Agent.ds)] 0),(15,.ro (a1.map AO)),(16,.int .i64 (a1.length:Int)),(17,.int .i64 u),(34,.bool w)],[],[]⟩):=by
 induction n with
 |zero=>exact⟨(fun _ _ _ _ h=>by rw [C8] at h; cases h),(fun _ _ _ _ _ h=>by rw [Dh] at h; cases h)⟩
 | succ n ih=>
  obtain⟨ih0,ih1⟩:=ih
  refine⟨?_,?_⟩
  ·intro a0 a1 u r h
   rw [C8] at h
   refine AN rfl rfl (Z ?_)
   refine AY (Z ?_)
   refine AB h (fun h=>Z ?_) (fun h=>Z ?_)
   ·refine AF ?_
    replace h:=AD h; obtain⟨y,q,h⟩:=h
    refine AL q rfl (Z ?_)
    refine AB h (fun h=>Z ?_) (fun h=>Z ?_)
    ·replace h:=AD h; obtain⟨g,j,h⟩:=h
     refine AL j (Agent.ds_len _) (Z ?_)
     replace h:=AD h; obtain⟨k,b,h⟩:=h
     refine AH (FM _ _ b) (Z ?_)
     exact AR (ih1 a0 a1 u (!k) _ h) [] []
    ·exact AR (ih1 a0 a1 u false _ h) [] []
   ·refine AF ?_
    cases h
    simp only [go_sem]
  ·intro a0 a1 u w r h
   rw [Dh] at h
   refine AN rfl rfl (Z ?_)
   refine AB h (fun h=>Z ?_) (fun h=>Z ?_)
   ·cases h
    simp only [go_sem]
   ·refine AF ?_
    exact lpF (ih0 a0 a1 (IntKind.i64.wrap (u+1)) _ h) [] []
def QP (n:Nat):=(Ph n).1
theorem TV (a0 a1 r) (h:JX a0 a1=some r):AC Tryz.prog 110 [.rop (Net.avs a0) 0,.ro (a1.map AO)] (.bool r):=by
 unfold JX at h
 refine acF Tryz.func110 mixed (h:=Z ?_)
 refine AB h (fun h=>Z ?_) (fun h=>Z ?_)
 ·cases h
  simp only [go_sem]
 ·refine AF ?_
  exact loF (QP fuel a0 a1 0 _ h) [] []
theorem Hy (a1:Int) (u:Bool) (r:Bool) (h:FT a1 u=some r):Af Tryz.prog Tryz.f145 [1,0,1,0,1,1,1,1,1,1,1,1,1,1,1] (.bool r) ⟨[(1,.int .i64 a1),(32,.bool u)],[],[]⟩:=by
 unfold FT at h
 refine AN rfl rfl (Z ?_)
 refine AB h (fun h=>Z ?_) (fun h=>Z ?_)
 ·cases h
  simp only [go_sem]
 ·refine AF ?_
  cases h
  simp only [go_sem]
theorem Hz (a0:Int) (a1:Int) (u:Bool) (r:Bool) (h:FU a0 a1 u=some r):Af Tryz.prog Tryz.f145 [1,0,1,0,1,1,1,1,1,1,1,1,1] (.bool r) ⟨[(1,.int .i64 a1),(7,.int .i64 a0),(26,.bool u)],[],[]⟩:=by
 unfold FU at h
 refine AN rfl rfl (Z ?_)
 refine AB h (fun h=>Z ?_) (fun h=>Z ?_)
 ·cases h
  simp only [go_sem]
 ·refine AB h (fun h=>Z ?_) (fun h=>Z ?_)
  ·exact AR (Hy a1 (decide (a0=8)) _ h) [] []
  ·refine AB h (fun h=>Z ?_) (fun h=>Z ?_)
   ·exact AR (Hy a1 (decide (a0=10)) _ h) [] []
   ·exact AR (Hy a1 (decide (a0=11)) _ h) [] []
theorem K7 (a0:Int) (a1:Int) (a2:Bool) (u:Bool) (r:Bool) (h:GW a0 a1 a2 u=some r):Af Tryz.prog Tryz.f145 [1,0,1,0,1,1,1] (.bool r) ⟨[(1,.int .i64 a1),(2,.bool a2),(7,.int .i64 a0),(12,.bool u)],[],[]⟩:=by
 unfold GW at h
 refine AN rfl rfl (Z ?_)
 refine AB h (fun h=>Z ?_) (fun h=>Z ?_)
 ·cases h
  simp only [go_sem]
 ·refine AB h (fun h=>Z ?_) (fun h=>Z ?_)
  ·cases h
   simp only [go_sem]
  ·refine AB h (fun h=>Z ?_) (fun h=>Z ?_)
   ·cases h
    simp only [go_sem]
   ·refine AB h (fun h=>Z ?_) (fun h=>Z ?_)
    ·exact AR (Hz a0 a1 (decide (a0=6)) _ h) [] []
    ·refine AB h (fun h=>Z ?_) (fun h=>Z ?_)
     ·exact AR (Hz a0 a1 (decide (a0=12)) _ h) [] []
     ·exact AR (Hz a0 a1 (decide (a0=9)) _ h) [] []
theorem TW (a0 a1 a2 r) (h:LS a0 a1 a2=some r):AC Tryz.prog 145 [.int .i64 a0,.int .i64 a1,.bool a2] (.bool r):=by
 unfold LS at h
 refine acF Tryz.func145 mixed (h:=Z ?_)
 refine AB h (fun h=>Z ?_) (fun h=>Z ?_)
 ·cases h
  simp only [go_sem]
 ·refine AB h (fun h=>Z ?_) (fun h=>Z ?_)
  ·exact AR (K7 a0 a1 a2 (decide (a0=3)) _ h) [] []
  ·exact AR (K7 a0 a1 a2 (decide (a0=7)) _ h) [] []
theorem GG (a0:Int) (a1:Int) (a2:Bool) (u:Bool) (r:Int) (h:EP a0 a1 a2 u=some r):Af Tryz.prog Tryz.f120 [1,1,1,0,1] (.int .i64 r) ⟨[(0,.int .i64 a0),(1,.int .i64 a1),(2,.bool a2),(26,.bool u)],[],[]⟩:=by
 unfold EP at h
 refine AN rfl rfl (Z ?_)
 refine AB h (fun h=>Z ?_) (fun h=>Z ?_)
 ·cases h
  simp only [go_sem]
 ·refine AF ?_
  replace h:=AD h; obtain⟨w,y,h⟩:=h
  refine AH (TW _ _ _ _ y) (Z ?_)
  refine AF ?_
  refine AB h (fun h=>Z ?_) (fun h=>Z ?_)
  ·cases h
   simp only [go_sem]
  ·refine AF ?_
   cases h
   simp only [go_sem]
theorem K8 (a0:Int) (a1:Int) (a2:Bool) (u:Int) (r:Int) (h:GX a0 a1 a2 u=some r):Af Tryz.prog Tryz.f120 [1,1,1] (.int .i64 r) ⟨[(0,.int .i64 a0),(1,.int .i64 a1),(2,.bool a2),(7,.int .i64 u)],[],[]⟩:=by
 unfold GX at h
 refine AN rfl rfl (Z ?_)
 refine AB h (fun h=>Z ?_) (fun h=>Z ?_)
 ·exact AR (GG a0 a1 a2 true _ h) [] []
 ·replace h:=AD h; obtain⟨w,y,h⟩:=h
  refine AH (Pi _ _ _ y) (Z ?_)
  refine AB h (fun h=>Z ?_) (fun h=>Z ?_)
  ·exact AR (GG a0 a1 a2 true _ h) [] []
  ·refine AB h (fun h=>Z ?_) (fun h=>Z ?_)
   ·replace h:=AD h; obtain⟨q,g,h⟩:=h
    refine AH (FM _ _ g) (Z ?_)
    exact AR (GG a0 a1 a2 (!q) _ h) [] []
   ·exact AR (GG a0 a1 a2 false _ h) [] []
theorem TX (a0 a1 a2 r) (h:Hr a0 a1 a2=some r):AC Tryz.prog 120 [.int .i64 a0,.int .i64 a1,.bool a2] (.int .i64 r):=by
 unfold Hr at h
 refine acF Tryz.func120 mixed (h:=Z ?_)
 refine AB h (fun h=>Z ?_) (fun h=>Z ?_)
 ·exact AR (K8 a0 a1 a2 3 _ h) [] []
 ·exact AR (K8 a0 a1 a2 0 _ h) [] []
theorem EW (a0 a1 a2 r) (h:Bt a0 a1 a2=some r):AC Tryz.prog 80 [.rop (Net.avs a0) 0,.agg (Port.avs a1),.ro (a2.map AO)] (.int .i64 r):=by
 unfold Bt at h
 refine acF Tryz.func80 mixed (h:=Z ?_)
 refine AX [] .fin (by kernel_rfl) (Z ?_)
 replace h:=AD h; obtain⟨u,w,h⟩:=h
 refine AL w (Agent.ds_len _) (Z ?_)
 replace h:=AD h; obtain⟨y,q,h⟩:=h
 refine AL q rfl (Z ?_)
 replace h:=AD h; obtain⟨g,j,h⟩:=h
 refine AH (TX _ _ _ _ j) (Z ?_)
 refine AF ?_
 cases h
 simp only [go_sem]
theorem QQ (a0 a1 r) (h:H3 a0 a1=some r):AC Tryz.prog 138 [.agg (Port.avs a0),.agg (Port.avs a1)] (.bool r):=by
 unfold H3 at h
 refine acF Tryz.func138 mixed (h:=Z ?_)
 refine AB h (fun h=>Z ?_) (fun h=>Z ?_)
 ·refine AF ?_
  cases h
  simp only [go_sem]
 ·refine AB h (fun h=>Z ?_) (fun h=>Z ?_)
  ·refine AF ?_
   cases h
   simp only [go_sem]
  ·refine AF ?_
   cases h
   simp only [go_sem]
theorem My (n:Nat):(∀a0 a1 u w r,Bd n a0 a1 u w=some r→Af Tryz.prog Tryz.f111 [1,0,1,0] (.tup [.agg (Wire.rv r.1),.bool r.2]) ⟨[(0,.rop [.ro (a0.agents.map Agent.ds)] 0),(1,.ro (a1.map AO)),(4,.box 1000002500 0),(10,.own 1000002000),(11,.int .i64 (u.length:Int)),(12,.int .i64 w)],[(1000002000,some ⟨List.map Port.ds u,some 2,0,false⟩)],[(1000002500,some [.int .i64 0,.int .i64 0,.int .i64 0,.int .i64 0])]⟩)∧
    (∀a0 a1 w u y q g r,Cz n a0 a1 w u y q g=some r→Af Tryz.prog Tryz.f111 [1,0,1,0,0,1,1,0,0,1,1,1] (.tup [.agg (Wire.rv r.1),.bool r.2]) ⟨[(0,.rop [.ro (a0.agents.map Agent.ds)] 0),(1,.ro (a1.map AO)),(4,.box 1000003500 0),(7,.box 1000003501 0),(8,.box 1000003502 0),(10,.own 1000003000),(11,.int .i64 (u.length:Int)),(12,.int .i64 w),(32,.bool g)],[(1000003000,some ⟨List.map Port.ds u,some 2,0,false⟩)],[(1000003500,some [.int .i64 0,.int .i64 0,.int .i64 0,.int .i64 0]),(1000003501,some [.int .i64 y.agent,.int .i64 y.slot]),(1000003502,some [.int .i64 q.agent,.int .i64 q.slot])]⟩):=by
 induction n with
 |zero=>exact⟨(fun _ _ _ _ _ h=>by rw [Bd] at h; cases h),(fun _ _ _ _ _ _ _ _ h=>by rw [Cz] at h; cases h)⟩
 | succ n ih=>
  obtain⟨ih0,ih1⟩:=ih
  refine⟨?_,?_⟩
  ·intro a0 a1 u w r h
   rw [Bd] at h
   refine AN rfl rfl (Z ?_)
   refine AY (Z ?_)
   refine AB h (fun h=>Z ?_) (fun h=>Z ?_)
   ·refine AF ?_
    replace h:=AD h; obtain⟨y,j,h⟩:=h
    refine AL j (Port.ds_len _) (Z ?_)
    refine Aa (AS j) (Z ?_)
    refine AF ?_
    replace h:=AD h; obtain⟨q,k,h⟩:=h
    refine AH (EU _ _ _ k) (Z ?_)
    refine AF ?_
    refine AX [] .fin (by kernel_rfl) (Z ?_)
    replace h:=AD h; obtain⟨b,d,h⟩:=h
    refine AH (QQ _ _ _ d) (Z ?_)
    refine AB h (fun h=>Z ?_) (fun h=>Z ?_)
    ·replace h:=AD h; obtain⟨c,e,h⟩:=h
     refine AH (EW _ _ _ _ e) (Z ?_)
     replace h:=AD h; obtain⟨i,l,h⟩:=h
     refine AH (EW _ _ _ _ l) (Z ?_)
     exact AR (ih1 a0 a1 w u y q (decide (c=i)) _ h) [(1000003000,1000002000)] [(1000003500,1000002500),(1000003501,4002),(1000003502,5003)]
    ·exact AR (ih1 a0 a1 w u y q false _ h) [(1000003000,1000002000)] [(1000003500,1000002500),(1000003501,4002),(1000003502,5003)]
   ·refine AF ?_
    cases h
    simp only [go_sem]
  ·intro a0 a1 w u y q g r h
   rw [Cz] at h
   refine AN rfl rfl (Z ?_)
   refine AB h (fun h=>Z ?_) (fun h=>Z ?_)
   ·cases h
    simp only [go_sem]
   ·refine AF ?_
    exact lpF (ih0 a0 a1 u (IntKind.i64.wrap (w+1)) _ h) [(1000002000,1000003000)] [(1000002500,1000003500)]
def Nf (n:Nat):=(My n).1
theorem QR (a0 a1 r) (h:GY a0 a1=some r):AC Tryz.prog 111 [.rop (Net.avs a0) 0,.ro (a1.map AO)] (.tup [.agg (Wire.rv r.1),.bool r.2]):=by
 unfold GY at h
 refine acF Tryz.func111 mixed (h:=Z ?_)
 refine AF ?_
 replace h:=AD h; obtain⟨u,w,h⟩:=h
 refine AH (Mz _ _ w) (Z ?_)
 refine AF ?_
 exact loF (Nf fuel a0 a1 u 0 _ h) [(1000002000,32016)] [(1000002500,1000)]
theorem Ij (a0 a1 r) (h:C0 a0 a1=some r):AC Tryz.prog 65 [.rop (Net.avs a0) 0,.ro (a1.map AO)] (.bool r):=by
 unfold C0 at h
 refine acF Tryz.func65 mixed (h:=Z ?_)
 replace h:=AD h; obtain⟨u,w,h⟩:=h
 refine AH (TV _ _ _ w) (Z ?_)
 refine AF ?_
 refine AB h (fun h=>Z ?_) (fun h=>Z ?_)
 ·cases h
  simp only [go_sem]
 ·refine AF ?_
  replace h:=AD h; obtain⟨y,q,h⟩:=h
  refine AH (QR _ _ _ q) (Z ?_)
  refine AF ?_
  cases h
  simp only [go_sem]
theorem Q8 (a0 a1 r) (h:Ip a0 a1=some r):AC Tryz.prog 28 [.agg (Net.avs a0),.ro (a1.map AO)] (.bool r):=by
 unfold Ip at h
 refine acF Tryz.func28 mixed (h:=Z ?_)
 replace h:=AD h; obtain⟨u,w,h⟩:=h
 refine AH (KJ _ _ w) (Z ?_)
 refine AB h (fun h=>Z ?_) (fun h=>Z ?_)
 ·replace h:=AD h; obtain⟨y,q,h⟩:=h
  refine AH (Ij _ _ _ q) (Z ?_)
  refine AF ?_
  cases h
  simp only [go_sem]
 ·refine AF ?_
  cases h
  simp only [go_sem]
theorem Ng (n:Nat):(∀a0 u w y r,BO n a0 u w y=some r→Af Tryz.prog Tryz.f122 [1,1,1,0,1,0] (.ow (some 1) (r.map Ar)) ⟨[(0,.rop [.ro (a0.agents.map Agent.ds)] 0),(5,.own 1000005000),(6,.mpr 1000005500),(7,.int .i64 y)],[(1000005000,some ⟨List.map Ar u,some 1,0,false⟩)],[(1000005500,some [.mpc (.int .i64) (w.map prB)])]⟩)∧
    (∀a0 y q g j k r,BP n a0 y q g j k=some r→Af Tryz.prog Tryz.f122 [1,1,1,0,1,0,0,1,0,0,1,0] (.ow (some 1) (r.map Ar)) ⟨[(0,.rop [.ro (a0.agents.map Agent.ds)] 0),(5,.own 1000008000),(6,.mpr 1000008500),(7,.int .i64 y),(31,.ro (q.ports.map Port.ds)),(32,.int .i64 (q.ports.length:Int)),(33,.int .i64 k)],[(1000008000,some ⟨List.map Ar g,some 1,0,false⟩)],[(1000008500,some [.mpc (.int .i64) (j.map prB)])]⟩)∧
    (∀a0 y g j k q b d r,Cl n a0 y g j k q b d=some r→Af Tryz.prog Tryz.f122 [1,1,1,0,1,0,0,1,0,0,1,0,0,1,1,0,0,1,1] (.ow (some 1) (r.map Ar)) ⟨[(0,.rop [.ro (a0.agents.map Agent.ds)] 0),(5,.own 1000009000),(6,.mpr 1000009500),(7,.int .i64 y),(9,.box 1000009501 0),(31,.ro (q.ports.map Port.ds)),(32,.int .i64 (q.ports.length:Int)),(33,.int .i64 k),(53,.bool d)],[(1000009000,some ⟨List.map Ar g,some 1,0,false⟩)],[(1000009500,some [.mpc (.int .i64) (j.map prB)]),(1000009501,some [.int .i64 b.agent,.int .i64 b.slot])]⟩):=by
 induction n with
 |zero=>exact⟨(fun _ _ _ _ _ h=>by rw [BO] at h; cases h),(fun _ _ _ _ _ _ _ h=>by rw [BP] at h; cases h),(fun _ _ _ _ _ _ _ _ _ h=>by rw [Cl] at h; cases h)⟩
 | succ n ih=>
  obtain⟨ih0,ih1,ih2⟩:=ih
  refine⟨?_,?_,?_⟩
  ·intro a0 u w y r h
   rw [BO] at h
   refine AN rfl rfl (Z ?_)
   refine AY (Z ?_)
   refine AB h (fun h=>Z ?_) (fun h=>Z ?_)
   ·refine AF ?_
    refine AX [] .fin (by kernel_rfl) (Z ?_)
    replace h:=AD h; obtain⟨c,e,h⟩:=h
    refine AL e rfl (Z ?_)
    refine Aa (AS e) (Z ?_)
    replace h:=AD h; obtain⟨q,i,h⟩:=h
    refine AL i (Agent.ds_len _) (Z ?_)
    refine AF ?_
    exact loF (ih1 a0 y q u w 0 _ h) [(1000008000,1000005000)] [(1000008500,1000005500)]
   ·refine AF ?_
    cases h
    simp only [go_sem]
  ·intro a0 y q g j k r h
   rw [BP] at h
   refine AN rfl rfl (Z ?_)
   refine AY (Z ?_)
   refine AB h (fun h=>Z ?_) (fun h=>Z ?_)
   ·refine AF ?_
    replace h:=AD h; obtain⟨b,l,h⟩:=h
    refine AL l (Port.ds_len _) (Z ?_)
    refine AF ?_
    refine AX [] .fin (by kernel_rfl) (Z ?_)
    replace h:=AD h; obtain⟨t,s,h⟩:=h
    refine AL s (Agent.ds_len _) (Z ?_)
    replace h:=AD h; obtain⟨o,z,h⟩:=h
    refine AH (FM _ _ z) (Z ?_)
    refine AB h (fun h=>Z ?_) (fun h=>Z ?_)
    ·exact AR (ih2 a0 y g j k q b (!((J1 j b.agent).getD false)) _ h) [(1000009000,1000008000)] [(1000009500,1000008500),(1000009501,9002)]
    ·exact AR (ih2 a0 y g j k q b false _ h) [(1000009000,1000008000)] [(1000009500,1000008500),(1000009501,9002)]
   ·refine AF ?_
    exact lpF (ih0 a0 g j (IntKind.i64.wrap (y+1)) _ h) [(1000005000,1000008000)] [(1000005500,1000008500)]
  ·intro a0 y g j k q b d r h
   rw [Cl] at h
   refine AN rfl rfl (Z ?_)
   refine AB h (fun h=>Z ?_) (fun h=>Z ?_)
   ·replace h:=AD h; obtain⟨u1,u2,h⟩:=h
    have hq_:=I2 u2
    obtain⟨hv11003_73a,hv11003_73b⟩:=hq_
    refine Al (by first|exact hv11003_73a|(rw [List.length_map]; exact hv11003_73a)) (Z ?_)
    refine Ag (u1.map prB) (by rw [← hv11003_73b]; exact Ke) (Z ?_)
    replace h:=AD h; obtain⟨u3,u4,h⟩:=h
    have hq_:=An u4
    obtain⟨hv12004a,hv12004b⟩:=hq_
    refine C3 false (Z ?_)
    refine Al (by refine⟨?_,?_⟩ <;> (try simp only [List.length_map,List.length_append,List.length_cons,List.length_nil] at*) <;> (try unfold maxLen) <;> omega) (Z ?_)
    refine Ag (u3.map Ar) (by rw [← hv12004b]; simp only [List.map_append,List.map_cons,List.map_nil,List.nil_append,List.append_nil,go_sem,slD]) (Z ?_)
    refine AF ?_
    exact lpF (ih1 a0 y q u3 u1 (IntKind.i64.wrap (k+1)) _ h) [(1000008000,192064)] [(1000008500,1000009500)]
   ·refine AF ?_
    exact lpF (ih1 a0 y q g j (IntKind.i64.wrap (k+1)) _ h) [(1000008000,1000009000)] [(1000008500,1000009500)]
def Od (n:Nat):=(Ng n).1
theorem Sx (a0 a1 r) (h:IM a0 a1=some r):AC Tryz.prog 122 [.rop (Net.avs a0) 0,.int .i64 a1] (.ow (some 1) (r.map Ar)):=by
 unfold IM at h
 refine acF Tryz.func122 mixed (h:=Z ?_)
 refine AF ?_
 replace h:=AD h; obtain⟨u,w,h⟩:=h
 have hq_:=I2 w
 obtain⟨hv3002_1a,hv3002_1b⟩:=hq_
 try simp only [go_sem]
 refine Ag (u.map prB) (by rw [← hv3002_1b]; exact Ke (l:=[])) (Z ?_)
 refine D0 (DN rfl rfl (Od fuel a0 [a1] u 0 _ h):) (.one ⟨_,.lit 5 2000000000 2001 1 1 false [] _ _ (by (first|rfl|(simp only [go_sem]; rfl))) (by simp only [go_sem]; rfl) (by (first|rfl|(simp only [go_sem]; rfl))) (by (first|rfl|(simp only [go_sem]; rfl))) (by decide) (by decide) (by simp only [go_sem]) (.done _),[(1000005000,2000000000)],[(1000005500,3000)],?_⟩)
 simp only [go_sem]
 all_goals try rfl
theorem M0 (n:Nat):(∀a0 a1 u w y (z1:Option Nat) r,BS n a0 a1 u w y=some r→DB Tryz.prog Tryz.f123 [1,1,1,0,1,0] (.bool r.1) [(1,⟨List.map AO r.2,z1,0,false⟩)] [] ⟨[(0,.rop [.ro (a0.agents.map Agent.ds)] 0),(3,.own 1),(9,.mpr 1000007500),(26,.ro (a1.map Ar)),(27,.int .i64 (a1.length:Int)),(28,.int .i64 y)],[(1,some ⟨List.map AO u,z1,0,false⟩)],[(1000007500,some [.mpc (.int .i64) (w.map prB)])]⟩)∧
    (∀a0 a1 y q g j k b (z1:Option Nat) r,Be n a0 a1 y q g j k b=some r→DB Tryz.prog Tryz.f123 [1,1,1,0,1,0,0,1,1,0,0,1,1,0] (.bool r.1) [(1,⟨List.map AO r.2,z1,0,false⟩)] [] ⟨[(0,.rop [.ro (a0.agents.map Agent.ds)] 0),(3,.own 1),(9,.mpr 1000011500),(11,.int .i64 q),(26,.ro (a1.map Ar)),(27,.int .i64 (a1.length:Int)),(28,.int .i64 y),(39,.ro (g.ports.map Port.ds)),(40,.int .i64 (g.ports.length:Int)),(41,.int .i64 b)],[(1,some ⟨List.map AO j,z1,0,false⟩)],[(1000011500,some [.mpc (.int .i64) (k.map prB)])]⟩)∧
    (∀a0 a1 y j k b q g d c (z1:Option Nat) r,CS n a0 a1 y j k b q g d c=some r→DB Tryz.prog Tryz.f123 [1,1,1,0,1,0,0,1,1,0,0,1,1,0,0,1,1,0,0,1,1,0,1] (.bool r.1) [(1,⟨List.map AO r.2,z1,0,false⟩)] [] ⟨[(0,.rop [.ro (a0.agents.map Agent.ds)] 0),(3,.own 1),(9,.mpr 1000012500),(11,.int .i64 q),(13,.box 1000012501 0),(14,.box 1000012502 0),(26,.ro (a1.map Ar)),(27,.int .i64 (a1.length:Int)),(28,.int .i64 y),(39,.ro (g.ports.map Port.ds)),(40,.int .i64 (g.ports.length:Int)),(41,.int .i64 b),(65,.bool c)],[(1,some ⟨List.map AO j,z1,0,false⟩)],[(1000012500,some [.mpc (.int .i64) (k.map prB)]),(1000012501,some [.int .i64 d.agent,.int .i64 d.slot]),(1000012502,some [.int .i64 q,.int .i64 b])]⟩)∧
    (∀a0 a1 y b q g d e i (z1:Option Nat) r,B0 n a0 a1 y b q g d e i=some r→DB Tryz.prog Tryz.f123 [1,1,1,0,1,0,0,1,1,0,0,1,1,0,0,1,1,0,0,1,1,1] (.bool r.1) [(1,⟨List.map AO r.2,z1,0,false⟩)] [] ⟨[(0,.rop [.ro (a0.agents.map Agent.ds)] 0),(3,.own 1),(9,.mpr 1000013500),(11,.int .i64 q),(13,.box 1000013501 0),(14,.box 1000013502 0),(26,.ro (a1.map Ar)),(27,.int .i64 (a1.length:Int)),(28,.int .i64 y),(39,.ro (g.ports.map Port.ds)),(40,.int .i64 (g.ports.length:Int)),(41,.int .i64 b)],[(1,some ⟨List.map AO e,z1,0,false⟩)],[(1000013500,some [.mpc (.int .i64) (i.map prB)]),(1000013501,some [.int .i64 d.agent,.int .i64 d.slot]),(1000013502,some [.int .i64 q,.int .i64 b])]⟩):=by
 induction n with
 |zero=>exact⟨(fun _ _ _ _ _ _ _ h=>by rw [BS] at h; cases h),(fun _ _ _ _ _ _ _ _ _ _ h=>by rw [Be] at h; cases h),(fun _ _ _ _ _ _ _ _ _ _ _ _ h=>by rw [CS] at h; cases h),(fun _ _ _ _ _ _ _ _ _ _ _ h=>by rw [B0] at h; cases h)⟩
 | succ n ih=>
  obtain⟨ih0,ih1,ih2,ih3⟩:=ih
  refine⟨?_,?_,?_,?_⟩
  ·intro a0 a1 u w y z1 r h
   rw [BS] at h
   refine Aq rfl rfl (Z ?_)
   refine AY (Z ?_)
   refine AB h (fun h=>Z ?_) (fun h=>Z ?_)
   ·refine AF ?_
    replace h:=AD h; obtain⟨q,l,h⟩:=h
    refine AL l rfl (Z ?_)
    replace h:=AD h; obtain⟨g,t,h⟩:=h
    refine AL t (Agent.ds_len _) (Z ?_)
    exact loG (ih1 a0 a1 y q g u w 0 z1 _ h) [(1,1)] [(1000011500,1000007500)]
   ·refine AF ?_
    cases h
    refine BJ (.done _) [(1,1)] [] ?_
    simp only [go_sem]
  ·intro a0 a1 y q g j k b z1 r h
   rw [Be] at h
   refine Aq rfl rfl (Z ?_)
   refine AY (Z ?_)
   refine AB h (fun h=>Z ?_) (fun h=>Z ?_)
   ·refine AF ?_
    replace h:=AD h; obtain⟨d,s,h⟩:=h
    refine AL s (Port.ds_len _) (Z ?_)
    refine AF ?_
    refine AF ?_
    refine AX [] .fin (by kernel_rfl) (Z ?_)
    replace h:=AD h; obtain⟨o,z,h⟩:=h
    refine AL z (Agent.ds_len _) (Z ?_)
    replace h:=AD h; obtain⟨u1,u2,h⟩:=h
    refine AH (FM _ _ u2) (Z ?_)
    refine AB h (fun h=>Z ?_) (fun h=>Z ?_)
    ·exact BB (ih2 a0 a1 y j k b q g d (!((J1 k d.agent).getD false)) z1 _ h) [(1,1)] [(1000012500,1000011500),(1000012501,9003),(1000012502,10003)]
    ·exact BB (ih2 a0 a1 y j k b q g d false z1 _ h) [(1,1)] [(1000012500,1000011500),(1000012501,9003),(1000012502,10003)]
   ·refine AF ?_
    exact lpG (ih0 a0 a1 j k (IntKind.i64.wrap (y+1)) z1 _ h) [(1,1)] [(1000007500,1000011500)]
  ·intro a0 a1 y j k b q g d c z1 r h
   rw [CS] at h
   refine Aq rfl rfl (Z ?_)
   refine AB h (fun h=>Z ?_) (fun h=>Z ?_)
   ·replace h:=AD h; obtain⟨u3,u4,h⟩:=h
    have hq_:=I2 u4
    obtain⟨hv12003_432a,hv12003_432b⟩:=hq_
    refine Al (by first|exact hv12003_432a|(rw [List.length_map]; exact hv12003_432a)) (Z ?_)
    refine Ag (u3.map prB) (by rw [← hv12003_432b]; exact Ke) (Z ?_)
    replace h:=AD h; obtain⟨u5,u6,h⟩:=h
    refine AL u6 rfl (Z ?_)
    replace h:=AD h; obtain⟨u7,u8,h⟩:=h
    refine Aa (AS u6) (Z ?_)
    refine Ag (u7.map AO) (by rw [← Ai u8]; simp only [List.map_set,go_sem,slD]) (Z ?_)
    refine AX [false,false,false,false,false,false,false,false,false,false,false,false,false,true] (Tr.sq [13] .fin) (by kernel_rfl) (Z ?_)
    replace h:=AD h; obtain⟨u9,u10,h⟩:=h
    refine AH (EW _ _ _ _ u10) (Z ?_)
    replace h:=AD h; obtain⟨u11,u12,h⟩:=h
    refine AH (EW _ _ _ _ u12) (Z ?_)
    replace h:=AD h; obtain⟨u13,u14,h⟩:=h
    refine AL u14 rfl (Z ?_)
    replace h:=AD h; obtain⟨u15,u16,h⟩:=h
    refine Aa (AS u14) (Z ?_)
    refine Ag (u15.map AO) (by rw [← Ai u16]; simp only [List.map_set,go_sem,slD]) (Z ?_)
    exact BB (ih3 a0 a1 y b q g d u15 u3 z1 _ h) [(1,1)] [(1000013500,1000012500),(1000013501,1000012501),(1000013502,1000012502)]
   ·exact BB (ih3 a0 a1 y b q g d j k z1 _ h) [(1,1)] [(1000013500,1000012500),(1000013501,1000012501),(1000013502,1000012502)]
  ·intro a0 a1 y b q g d e i z1 r h
   rw [B0] at h
   refine Aq rfl rfl (Z ?_)
   refine AX [] .fin (by kernel_rfl) (Z ?_)
   replace h:=AD h; obtain⟨u17,u18,h⟩:=h
   refine AH (EW _ _ _ _ u18) (Z ?_)
   replace h:=AD h; obtain⟨u19,u20,h⟩:=h
   refine AH (EW _ _ _ _ u20) (Z ?_)
   refine AF ?_
   refine AB h (fun h=>Z ?_) (fun h=>Z ?_)
   ·cases h
    refine BJ (.done _) [(1,1)] [] ?_
    simp only [go_sem]
   ·refine AF ?_
    exact lpG (ih1 a0 a1 y q g e i (IntKind.i64.wrap (b+1)) z1 _ h) [(1,1)] [(1000011500,1000013500)]
def Nh (n:Nat):=(M0 n).1
theorem Lu (a0 a1 a2 a3) (z1:Option Nat) (r) (h:F7 a0 a1 a2 a3=some r):AG Tryz.prog 123 [.rop [.ro (a0.agents.map Agent.ds)] 0,.ro (a1.map Ar),.bool a2,.own 1] [(1,⟨List.map AO a3,z1,0,false⟩)] [] (.bool r.1) [(1,⟨List.map AO r.2,z1,0,false⟩)] [] :=by
 unfold F7 at h
 refine agF Tryz.func123 mixed (h:=Z ?_)
 replace h:=AD h; obtain⟨u,w,h⟩:=h
 refine AL w rfl (Z ?_)
 replace h:=AD h; obtain⟨y,q,h⟩:=h
 have hq_:=I2 q
 obtain⟨hv2004_1a,hv2004_1b⟩:=hq_
 try simp only [go_sem]
 refine Ag (y.map prB) (by rw [← hv2004_1b]; exact Ke (l:=[])) (Z ?_)
 replace h:=AD h; obtain⟨g,j,h⟩:=h
 refine AL j rfl (Z ?_)
 replace h:=AD h; obtain⟨k,b,h⟩:=h
 refine AL b rfl (Z ?_)
 replace h:=AD h; obtain⟨d,c,h⟩:=h
 refine Aa (AS b) (Z ?_)
 refine Ag (d.map AO) (by rw [← Ai c]; simp only [List.map_set,go_sem,slD]) (Z ?_)
 exact loG (Nh fuel a0 a1 d y 0 z1 _ h) [(1,1)] [(1000007500,2000)]
theorem M1 (n:Nat):(∀a0 u w y r,Bf n a0 u w y=some r→Af Tryz.prog Tryz.f81 [1,1,1,0,1,0] (.tup [.ow (some 1) (r.1.map AO),.bool r.2]) ⟨[(0,.rop [.ro (a0.agents.map Agent.ds)] 0),(4,.own 1000008000),(5,.mpr 1000008500),(21,.ro (a0.agents.map Agent.ds)),(22,.int .i64 (a0.agents.length:Int)),(23,.int .i64 y)],[(1000008000,some ⟨List.map AO u,some 1,0,false⟩)],[(1000008500,some [.mpc (.int .i64) (w.map prB)])]⟩)∧
    (∀a0 u w y q r,CT n a0 u w y q=some r→Af Tryz.prog Tryz.f81 [1,1,1,0,1,0,0,1,1,0,0,1,0,1] (.tup [.ow (some 1) (r.1.map AO),.bool r.2]) ⟨[(0,.rop [.ro (a0.agents.map Agent.ds)] 0),(4,.own 1000009000),(5,.mpr 1000009500),(6,.int .i64 y),(21,.ro (a0.agents.map Agent.ds)),(22,.int .i64 (a0.agents.length:Int)),(23,.int .i64 y),(36,.bool q)],[(1000009000,some ⟨List.map AO u,some 1,0,false⟩)],[(1000009500,some [.mpc (.int .i64) (w.map prB)])]⟩)∧
    (∀a0 u y g j k r,Bg n a0 u y g j k=some r→Af Tryz.prog Tryz.f81 [1,1,1,0,1,0,0,1,1,0,0,1,1,1,0,1,0] (.tup [.ow (some 1) (r.1.map AO),.bool r.2]) ⟨[(0,.rop [.ro (a0.agents.map Agent.ds)] 0),(4,.own 1000014000),(5,.mpr 1000014500),(8,.own 1000014001),(21,.ro (a0.agents.map Agent.ds)),(22,.int .i64 (a0.agents.length:Int)),(23,.int .i64 y),(40,.own 1000014001),(41,.int .i64 (g.length:Int)),(42,.int .i64 k)],[(1000014000,some ⟨List.map AO u,some 1,0,false⟩),(1000014001,some ⟨List.map Ar g,some 1,0,false⟩)],[(1000014500,some [.mpc (.int .i64) (j.map prB)])]⟩)∧
    (∀a0 y j b d r,C1 n a0 y j b d=some r→Af Tryz.prog Tryz.f81 [1,1,1,0,1,0,0,1,1,0,0,1,1,1,1,1] (.tup [.ow (some 1) (r.1.map AO),.bool r.2]) ⟨[(0,.rop [.ro (a0.agents.map Agent.ds)] 0),(4,.own 1000015000),(5,.mpr 1000015500),(21,.ro (a0.agents.map Agent.ds)),(22,.int .i64 (a0.agents.length:Int)),(23,.int .i64 y),(60,.bool d)],[(1000015000,some ⟨List.map AO b,some 1,0,false⟩)],[(1000015500,some [.mpc (.int .i64) (j.map prB)])]⟩):=by
 induction n with
 |zero=>exact⟨(fun _ _ _ _ _ h=>by rw [Bf] at h; cases h),(fun _ _ _ _ _ _ h=>by rw [CT] at h; cases h),(fun _ _ _ _ _ _ _ h=>by rw [Bg] at h; cases h),(fun _ _ _ _ _ _ h=>by rw [C1] at h; cases h)⟩
 | succ n ih=>
  obtain⟨ih0,ih1,ih2,ih3⟩:=ih
  refine⟨?_,?_,?_,?_⟩
  ·intro a0 u w y r h
   rw [Bf] at h
   refine AN rfl rfl (Z ?_)
   refine AY (Z ?_)
   refine AB h (fun h=>Z ?_) (fun h=>Z ?_)
   ·refine AF ?_
    replace h:=AD h; obtain⟨c,e,h⟩:=h
    refine AL e (Agent.ds_len _) (Z ?_)
    refine AF ?_
    replace h:=AD h; obtain⟨i,l,h⟩:=h
    refine AH (FM _ _ l) (Z ?_)
    refine AB h (fun h=>Z ?_) (fun h=>Z ?_)
    ·exact AR (ih1 a0 u w y true _ h) [(1000009000,1000008000)] [(1000009500,1000008500)]
    ·exact AR (ih1 a0 u w y ((J1 w y).getD false) _ h) [(1000009000,1000008000)] [(1000009500,1000008500)]
   ·refine AF ?_
    replace h:=AD h; obtain⟨t,s,h⟩:=h
    refine AH (Ij _ _ _ s) (Z ?_)
    refine AF ?_
    cases h
    simp only [go_sem]
  ·intro a0 u w y q r h
   rw [CT] at h
   refine AN rfl rfl (Z ?_)
   refine AB h (fun h=>Z ?_) (fun h=>Z ?_)
   ·refine AF ?_
    exact lpF (ih0 a0 u w (IntKind.i64.wrap (y+1)) _ h) [(1000008000,1000009000)] [(1000008500,1000009500)]
   ·refine AF ?_
    replace h:=AD h; obtain⟨g,o,h⟩:=h
    refine AH (Sx _ _ _ o) (Z ?_)
    refine AF ?_
    exact loF (ih2 a0 u y g w 0 _ h) [(1000014000,1000009000),(1000014001,128032)] [(1000014500,1000009500)]
  ·intro a0 u y g j k r h
   rw [Bg] at h
   refine AN rfl rfl (Z ?_)
   refine AY (Z ?_)
   refine AB h (fun h=>Z ?_) (fun h=>Z ?_)
   ·refine AF ?_
    replace h:=AD h; obtain⟨z,u1,h⟩:=h
    refine AL u1 rfl (Z ?_)
    refine Aa (AS u1) (Z ?_)
    replace h:=AD h; obtain⟨u2,u3,h⟩:=h
    have hq_:=I2 u3
    obtain⟨hv12002_144a,hv12002_144b⟩:=hq_
    refine Al (by first|exact hv12002_144a|(rw [List.length_map]; exact hv12002_144a)) (Z ?_)
    refine Ag (u2.map prB) (by rw [← hv12002_144b]; exact Ke) (Z ?_)
    refine AF ?_
    exact lpF (ih2 a0 u y g u2 (IntKind.i64.wrap (k+1)) _ h) [(1000014000,1000014000),(1000014001,1000014001)] [(1000014500,1000014500)]
   ·refine AF ?_
    replace h:=AD h; obtain⟨u4,u5,h⟩:=h
    refine caG ⟨[],[(1,1000014000)],[],[],[],false⟩ (Lu _ _ _ _ (some 1) _ u5) (Z ?_)
    refine AB h (fun h=>Z ?_) (fun h=>Z ?_)
    ·replace h:=AD h; obtain⟨u6,u7,h⟩:=h
     refine caG ⟨[],[(1,1000014000)],[],[],[],false⟩ (Lu _ _ _ _ (some 1) _ u7) (Z ?_)
     exact AR (ih3 a0 y j u6.2 (!u6.1) _ h) [(1000015000,1000014000)] [(1000015500,1000014500)]
    ·exact AR (ih3 a0 y j u4.2 false _ h) [(1000015000,1000014000)] [(1000015500,1000014500)]
  ·intro a0 y j b d r h
   rw [C1] at h
   refine AN rfl rfl (Z ?_)
   refine AB h (fun h=>Z ?_) (fun h=>Z ?_)
   ·cases h
    simp only [go_sem]
   ·refine AF ?_
    exact lpF (ih0 a0 b j (IntKind.i64.wrap (y+1)) _ h) [(1000008000,1000015000)] [(1000008500,1000015500)]
def Ni (n:Nat):=(M1 n).1
theorem Q9 (a0 r) (h:E4 a0=some r):AC Tryz.prog 81 [.rop (Net.avs a0) 0] (.tup [.ow (some 1) (r.1.map AO),.bool r.2]):=by
 unfold E4 at h
 refine acF Tryz.func81 mixed (h:=Z ?_)
 replace h:=AD h; obtain⟨u,w,h⟩:=h
 have hq_:=G8 w
 obtain⟨hv2005a,hv2005b,hv2005c⟩:=hq_
 refine Al (by refine⟨?_,?_,?_⟩ <;> omega) (Z ?_)
 refine Ag (u.map AO) (by rw [← hv2005c]; simp only [List.map_replicate,go_sem,slD]) (Z ?_)
 refine AF ?_
 exact loF (Ni fuel a0 u [] 0 _ h) [(1000008000,32080)] [(1000008500,3000)]
theorem H0 (n:Nat):(∀a0 a3 a4 u w r,Am n a0 a3 a4 u w=some r→DB Tryz.prog Tryz.f33 [1,1,0,1,0,0,0,1,0,1,0] (.tup [.own 1501,.int .i64 r.2]) [(1501,⟨List.map AO r.1,none,0,false⟩)] [(1,[.ro (a0.net.agents.map Agent.ds),.ro (a0.book.map Net.ds),.mpr 2]),(2,[.mpc (.int .i64) (a0.removed.map prB)])] ⟨[(0,.box 1 0),(3,.int .i64 a3),(4,.ro (a4.map AO)),(12,.own 1000008000),(13,.int .i64 w)],[(1000008000,some ⟨List.map AO u,some 1,0,false⟩)],[(2,some [.mpc (.int .i64) (a0.removed.map prB)]),(1,some [.ro (a0.net.agents.map Agent.ds),.ro (a0.book.map Net.ds),.mpr 2])]⟩):=by
 induction n with
 |zero=>exact((fun _ _ _ _ _ _ h=>by rw [Am] at h; cases h))
 | succ n ih=>
  have ih0:=ih
  ·intro a0 a3 a4 u w r h
   rw [Am] at h
   refine Aq rfl rfl (Z ?_)
   refine AY (Z ?_)
   replace h:=AD h; obtain⟨y,q,h⟩:=h
   refine AL q (Agent.ds_len _) (Z ?_)
   refine AB h (fun h=>Z ?_) (fun h=>Z ?_)
   ·refine AF ?_
    replace h:=AD h; obtain⟨g,j,h⟩:=h
    refine AH (SM (EW _ _ _ _ j) (.cons (.rop rfl) (.cons (.refl _) (.cons (.refl _) .nil)))) (Z ?_)
    replace h:=AD h; obtain⟨k,b,h⟩:=h
    have hq_:=An b
    obtain⟨hv11011a,hv11011b⟩:=hq_
    refine C3 false (Z ?_)
    refine Al (by refine⟨?_,?_⟩ <;> (try simp only [List.length_map,List.length_append,List.length_cons,List.length_nil] at*) <;> (try unfold maxLen) <;> omega) (Z ?_)
    refine Ag (k.map AO) (by rw [← hv11011b]; simp only [List.map_append,List.map_cons,List.map_nil,List.nil_append,List.append_nil,go_sem,slD]) (Z ?_)
    refine AF ?_
    exact lpG (ih0 a0 a3 a4 k (IntKind.i64.wrap (w+1)) _ h) [(1000008000,176176)] [(2,2),(1,1)]
   ·refine AF ?_
    refine AF ?_
    cases h
    refine BJ (.done _) [(1501,1000008000)] [(2,2),(1,1)] ?_
    simp only [go_sem]
theorem Ei (a0:Rewriter) (a3:Int) (a4:List Bool) (u:List Bool) (r:(List Bool) × Int) (h:Bp a0 a3 a4 u=some r):DB Tryz.prog Tryz.f33 [1,1,0,1,0,0,0,1] (.tup [.own 1501,.int .i64 r.2]) [(1501,⟨List.map AO r.1,none,0,false⟩)] [(1,[.ro (a0.net.agents.map Agent.ds),.ro (a0.book.map Net.ds),.mpr 2]),(2,[.mpc (.int .i64) (a0.removed.map prB)])] ⟨[(0,.box 1 0),(3,.int .i64 a3),(4,.ro (a4.map AO)),(12,.own 1000000000)],[(1000000000,some ⟨List.map AO u,some 1,0,false⟩)],[(2,some [.mpc (.int .i64) (a0.removed.map prB)]),(1,some [.ro (a0.net.agents.map Agent.ds),.ro (a0.book.map Net.ds),.mpr 2])]⟩:=by
 unfold Bp at h
 refine Aq rfl rfl (Z ?_)
 exact loG (H0 fuel a0 a3 a4 u 1 _ h) [(1000008000,1000000000)] [(2,2),(1,1)]
theorem Is (a0 a1 a2 a3 a4 r) (h:Bh a0 a1 a2 a3 a4=some r):AG Tryz.prog 33 [.box 1 0,.int .i64 a1,.int .i64 a2,.int .i64 a3,.ro (a4.map AO)] [] [(2,[.mpc (.int .i64) (a0.removed.map prB)]),(1,[.ro (a0.net.agents.map Agent.ds),.ro (a0.book.map Net.ds),.mpr 2])] (.tup [.own 1501,.int .i64 r.2]) [(1501,⟨List.map AO r.1,none,0,false⟩)] [(1,[.ro (a0.net.agents.map Agent.ds),.ro (a0.book.map Net.ds),.mpr 2]),(2,[.mpc (.int .i64) (a0.removed.map prB)])] :=by
 unfold Bh at h
 refine agF Tryz.func33 mixed (h:=Z ?_)
 refine AB h (fun h=>Z ?_) (fun h=>Z ?_)
 ·refine AF ?_
  refine AX [false,false,false,false,false,false,false,false,false,false,true,true] (Tr.sq [10,11] .fin) (by kernel_rfl) (Z ?_)
  replace h:=AD h; obtain⟨u,w,h⟩:=h
  refine AL w rfl (Z ?_)
  replace h:=AD h; obtain⟨y,q,h⟩:=h
  refine AL q rfl (Z ?_)
  replace h:=AD h; obtain⟨g,k,h⟩:=h
  have hq_:=An k
  obtain⟨hv7010a,hv7010b⟩:=hq_
  refine C3 false (Z ?_)
  refine Al (by show (2:Nat)≤maxLen; unfold maxLen; omega) (Z ?_)
  refine Ag (g.map AO) (by rw [← hv7010b]; simp only [List.map_append,List.map_cons,List.map_nil,List.nil_append,List.append_nil,go_sem,slD]) (Z ?_)
  exact BB (Ei a0 a3 a4 g _ h) [(1000000000,112160)] [(2,2),(1,1)]
 ·refine AF ?_
  refine AB h (fun h=>Z ?_) (fun h=>Z ?_)
  ·refine Us (LQ rfl rfl (Ei a0 a3 a4 [] _ h):) (.one ⟨_,.slot 12 2000000000 (some 1) false (by simp only [go_sem]) (by simp only [go_sem]) (.done _),[(1000000000,2000000000)],[(2,2),(1,1)],?_⟩)
   simp only [go_sem]
   all_goals try rfl
  ·refine AF ?_
   refine AB h (fun h=>Z ?_) (fun h=>Z ?_)
   ·refine AF ?_
    refine AX [false,false,false,false,false,false,false,false,false,false,false,false,false,false,false,false,true] (Tr.sq [16] .fin) (by kernel_rfl) (Z ?_)
    replace h:=AD h; obtain⟨b,d,h⟩:=h
    refine AL d (Agent.ds_len _) (Z ?_)
    replace h:=AD h; obtain⟨c,e,h⟩:=h
    refine AL e (Net.ds_len _) (Z ?_)
    refine AF ?_
    replace h:=AD h; obtain⟨l,t,h⟩:=h
    refine AH (Q9 _ _ t) (Z ?_)
    refine AF ?_
    refine AB h (fun h=>Z ?_) (fun h=>Z ?_)
    ·cases h
     refine BJ (.deep 0 2000000000 none false [0] (by (first|rfl|(simp only [go_sem]; rfl))) (by simp only [go_sem]) (.done _)) [(1501,2000000000)] [(2,2),(1,1)] ?_
     simp only [go_sem]
     all_goals try rfl
    ·refine AF ?_
     replace h:=AD h; obtain⟨s,o,h⟩:=h
     refine cn (i:=1) (j:=((List.length l.1 :Nat):Int)) (r:=List.map AO s) (by rfl) (by rfl) (by (first|(simp only [go_sem]; done)|(simp only [go_sem]; rfl)|rfl|(simp only [go_sem]; omega))) (by (first|(simp only [go_sem]; done)|(simp only [go_sem]; rfl)|rfl|(simp only [go_sem]; omega))) (by exact J2 (by intro x; exact rfl) _) (by rfl) (by simp only [go_sem,List.length_map]) (Ux o) (by rfl) (Z ?_)
     refine AF ?_
     refine AF ?_
     cases h
     refine BJ (.done _) [(1501,256016)] [(2,2),(1,1)] ?_
     simp only [go_sem]
   ·refine AF ?_
    refine AF ?_
    cases h
    refine BJ (.deep 0 2000000000 none false [0] (by (first|rfl|(simp only [go_sem]; rfl))) (by simp only [go_sem]) (.done _)) [(1501,2000000000)] [(2,2),(1,1)] ?_
    simp only [go_sem]
    all_goals try rfl
theorem Lj (n:Nat):(∀a2 u w y q g r,Aj n a2 u w y q g=some r→Af Tryz.prog Tryz.f10 [1,1,1,1,1,1,1,1,1,1,1,1,0,1,0] (.tup [.ow (some 1) (r.1.map AO),.int .i64 r.2]) ⟨[(2,.ro (a2.map AO)),(12,.box 1000002500 0),(18,.own 1000002001),(19,.own 1000002002),(79,.int .i64 ((List.length w.2.net.agents :Nat):Int)),(80,.int .i64 g)],[(1000002000,some ⟨List.map Agent.dm w.2.net.agents,some 5,0,true⟩),(1000002001,some ⟨List.map AO y.1,none,0,false⟩),(1000002002,some ⟨List.map AO q,some 1,0,false⟩)],[(1000002500,some [.own 1000002000,.ro (u.book.map Net.ds),.mpr 1000002501]),(1000002501,some [.mpc (.int .i64) (w.2.removed.map prB)])]⟩):=by
 induction n with
 |zero=>exact((fun _ _ _ _ _ _ _ h=>by rw [Aj] at h; cases h))
 | succ n ih=>
  have ih0:=ih
  ·intro a2 u w y q g r h
   rw [Aj] at h
   refine AN rfl rfl (Z ?_)
   refine AY (Z ?_)
   refine AB h (fun h=>Z ?_) (fun h=>Z ?_)
   ·refine AF ?_
    refine AB h (fun h=>Z ?_) (fun h=>Z ?_)
    ·refine AF ?_
     exact lpF (ih0 a2 u w y q (IntKind.i64.wrap (g+1)) _ h) [(1000002000,1000002000),(1000002001,1000002001),(1000002002,1000002002)] [(1000002500,1000002500),(1000002501,1000002501)]
    ·refine AB h (fun h=>Z ?_) (fun h=>Z ?_)
     ·replace h:=AD h; obtain⟨j,k,h⟩:=h
      refine AL k rfl (Z ?_)
      replace h:=AD h; obtain⟨b,d,h⟩:=h
      have hq_:=An d
      obtain⟨hv25006a,hv25006b⟩:=hq_
      refine C3 false (Z ?_)
      refine Al (by refine⟨?_,?_⟩ <;> (try simp only [List.length_map,List.length_append,List.length_cons,List.length_nil] at*) <;> (try unfold maxLen) <;> omega) (Z ?_)
      refine Ag (b.map AO) (by rw [← hv25006b]; simp only [List.map_append,List.map_cons,List.map_nil,List.nil_append,List.append_nil,go_sem,slD]) (Z ?_)
      refine AF ?_
      exact lpF (ih0 a2 u w y b (IntKind.i64.wrap (g+1)) _ h) [(1000002000,1000002000),(1000002001,1000002001),(1000002002,400096)] [(1000002500,1000002500),(1000002501,1000002501)]
     ·refine AB h (fun h=>Z ?_) (fun h=>Z ?_)
      ·replace h:=AD h; obtain⟨c,e,h⟩:=h
       refine AL e rfl (Z ?_)
       refine Aa (AS e) (Z ?_)
       replace h:=AD h; obtain⟨i,l,h⟩:=h
       have hq_:=An l
       obtain⟨hv27009a,hv27009b⟩:=hq_
       refine C3 false (Z ?_)
       refine Al (by refine⟨?_,?_⟩ <;> (try simp only [List.length_map,List.length_append,List.length_cons,List.length_nil] at*) <;> (try unfold maxLen) <;> omega) (Z ?_)
       refine Ag (i.map AO) (by rw [← hv27009b]; simp only [List.map_append,List.map_cons,List.map_nil,List.nil_append,List.append_nil,go_sem,slD]) (Z ?_)
       refine AF ?_
       exact lpF (ih0 a2 u w y i (IntKind.i64.wrap (g+1)) _ h) [(1000002000,1000002000),(1000002001,1000002001),(1000002002,432144)] [(1000002500,1000002500),(1000002501,1000002501)]
      ·replace h:=AD h; obtain⟨t,s,h⟩:=h
       have hq_:=An s
       obtain⟨hv22002a,hv22002b⟩:=hq_
       refine C3 false (Z ?_)
       refine Al (by refine⟨?_,?_⟩ <;> (try simp only [List.length_map,List.length_append,List.length_cons,List.length_nil] at*) <;> (try unfold maxLen) <;> omega) (Z ?_)
       refine Ag (t.map AO) (by rw [← hv22002b]; simp only [List.map_append,List.map_cons,List.map_nil,List.nil_append,List.append_nil,go_sem,slD]) (Z ?_)
       refine AF ?_
       exact lpF (ih0 a2 u w y t (IntKind.i64.wrap (g+1)) _ h) [(1000002000,1000002000),(1000002001,1000002001),(1000002002,352032)] [(1000002500,1000002500),(1000002501,1000002501)]
   ·refine AF ?_
    cases h
    simp only [go_sem]
theorem Hb (a0:List Net) (a1:Net) (a2:List Bool) (a3:Int) (u:Bool) (r:(List Bool) × Int) (h:Cg a0 a1 a2 a3 u=some r):Af Tryz.prog Tryz.f10 [1,0,1] (.tup [.ow (some 1) (r.1.map AO),.int .i64 r.2]) ⟨[(0,.ro (a0.map Net.ds)),(2,.ro (a2.map AO)),(3,.int .i64 a3),(5,.box 1000000500 0),(29,.bool u)],[],[(1000000500,some [.ro (a1.agents.map Agent.ds)])]⟩:=by
 unfold Cg at h
 refine AN rfl rfl (Z ?_)
 refine AB h (fun h=>Z ?_) (fun h=>Z ?_)
 ·cases h
  simp only [go_sem]
 ·refine AF ?_
  replace h:=AD h; obtain⟨w,y,h⟩:=h
  refine AH (XY _ _ _ y) (Z ?_)
  refine AF ?_
  refine AB h (fun h=>Z ?_) (fun h=>Z ?_)
  ·cases h
   simp only [go_sem]
  ·refine AF ?_
   replace h:=AD h; obtain⟨q,g,h⟩:=h
   refine caG ⟨[],[],[],[(1501,112033)],[(1601,112032),(1602,112034)],true⟩ (Kz _ _ _ g) (Z ?_)
   refine AF ?_
   replace h:=AD h; obtain⟨j,k,h⟩:=h
   refine caG ⟨[],[(1001,112033)],[(1,112032,0),(2,112034,0)],[(1501,128032)],[],true⟩ (Ii _ _ _ k) (Z ?_)
   refine AF ?_
   refine AB h (fun h=>Z ?_) (fun h=>Z ?_)
   ·cases h
    simp only [go_sem]
   ·refine AF ?_
    replace h:=AD h; obtain⟨b,d,h⟩:=h
    refine caG ⟨[],[],[],[(1501,176033)],[(1601,176032),(1602,176034)],true⟩ (Kz _ _ _ d) (Z ?_)
    refine AF ?_
    replace h:=AD h; obtain⟨c,e,h⟩:=h
    refine caG ⟨[],[(1001,128032)],[(1,112032,0),(2,112034,0)],[(1501,192032)],[],true⟩ (Lf _ _ _ e) (Z ?_)
    refine AF ?_
    refine AB h (fun h=>Z ?_) (fun h=>Z ?_)
    ·cases h
     simp only [go_sem]
    ·refine AF ?_
     replace h:=AD h; obtain⟨i,l,h⟩:=h
     refine caG ⟨[],[],[(1,176032,0),(2,176034,0)],[(1501,240080)],[],false⟩ (Is _ _ _ _ _ _ l) (Z ?_)
     refine AF ?_
     refine AB h (fun h=>Z ?_) (fun h=>Z ?_)
     ·cases h
      simp only [go_sem]
     ·refine AF ?_
      refine D0 (DN rfl rfl (Lj fuel a2 q c i [] 0 _ h):) (.one ⟨_,.slot 19 2000000000 (some 1) false (by simp only [go_sem]) (by simp only [go_sem]) (.done _),[(1000002000,192032),(1000002001,240080),(1000002002,2000000000)],[(1000002500,112032),(1000002501,112034)],?_⟩)
      simp only [go_sem]
      all_goals try rfl
theorem Ik (a0 a1 a2 a3 r) (h:Dp a0 a1 a2 a3=some r):AC Tryz.prog 10 [.ro (a0.map Net.ds),.agg (Net.avs a1),.ro (a2.map AO),.int .i64 a3] (.tup [.ow (some 1) (r.1.map AO),.int .i64 r.2]):=by
 unfold Dp at h
 refine acF Tryz.func10 mixed (h:=Z ?_)
 replace h:=AD h; obtain⟨u,w,h⟩:=h
 refine AH (Nj _ _ w) (Z ?_)
 refine AB h (fun h=>Z ?_) (fun h=>Z ?_)
 ·exact AR (Hb a0 a1 a2 a3 true _ h) [] [(1000000500,1000)]
 ·replace h:=AD h; obtain⟨y,q,h⟩:=h
  refine AH (Q8 _ _ _ q) (Z ?_)
  exact AR (Hb a0 a1 a2 a3 (!y) _ h) [] [(1000000500,1000)]
theorem RA (n:Nat):(∀a0 a1 u r,E5 n a0 a1 u=some r→Af Tryz.prog Tryz.f11 [1,1,0,1,0] (.bool r) ⟨[(0,.ro (a0.map AO)),(1,.ro (a1.map AO)),(5,.int .i64 u)],[],[]⟩):=by
 induction n with
 |zero=>exact((fun _ _ _ _ h=>by rw [E5] at h; cases h))
 | succ n ih=>
  have ih0:=ih
  ·intro a0 a1 u r h
   rw [E5] at h
   refine AN rfl rfl (Z ?_)
   refine AY (Z ?_)
   refine AB h (fun h=>Z ?_) (fun h=>Z ?_)
   ·refine AF ?_
    refine AX [] .fin (by kernel_rfl) (Z ?_)
    replace h:=AD h; obtain⟨w,y,h⟩:=h
    refine AL y rfl (Z ?_)
    replace h:=AD h; obtain⟨q,g,h⟩:=h
    refine AL g rfl (Z ?_)
    refine AF ?_
    refine AB h (fun h=>Z ?_) (fun h=>Z ?_)
    ·cases h
     simp only [go_sem]
    ·refine AF ?_
     exact lpF (ih0 a0 a1 (IntKind.i64.wrap (u+1)) _ h) [] []
   ·refine AF ?_
    cases h
    simp only [go_sem]
theorem It (a0 a1 r) (h:FV a0 a1=some r):AC Tryz.prog 11 [.ro (a0.map AO),.ro (a1.map AO)] (.bool r):=by
 unfold FV at h
 refine acF Tryz.func11 mixed (h:=Z ?_)
 refine AB h (fun h=>Z ?_) (fun h=>Z ?_)
 ·cases h
  simp only [go_sem]
 ·refine AF ?_
  exact loF (RA fuel a0 a1 0 _ h) [] []
theorem Pj (n:Nat):(∀u w y (z1:Option Nat) r,DH n u w y=some r→DB Tryz.prog Tryz.f16 [1,0,1,0] (.int .i64 r.1) [(1,⟨List.map AO r.2,z1,0,false⟩)] [] ⟨[(0,.own 1),(1,.int .i64 w),(5,.int .i64 y)],[(1,some ⟨List.map AO u,z1,0,false⟩)],[]⟩):=by
 induction n with
 |zero=>exact((fun _ _ _ _ _ h=>by rw [DH] at h; cases h))
 | succ n ih=>
  have ih0:=ih
  ·intro u w y z1 r h
   rw [DH] at h
   refine Aq rfl rfl (Z ?_)
   refine AY (Z ?_)
   refine AB h (fun h=>Z ?_) (fun h=>Z ?_)
   ·refine AF ?_
    refine Al (by decide) (Z ?_)
    replace h:=AD h; obtain⟨q,g,h⟩:=h
    refine AL g rfl (Z ?_)
    replace h:=AD h; obtain⟨j,k,h⟩:=h
    refine Aa (AS g) (Z ?_)
    refine Ag (j.map AO) (by rw [← Ai k]; simp only [List.map_set,go_sem,slD]) (Z ?_)
    refine AF ?_
    exact lpG (ih0 j (IntKind.i64.wrap (w+1)) (IntKind.i64.wrap (y+1)) z1 _ h) [(1,1)] []
   ·refine AF ?_
    cases h
    refine BJ (.done _) [(1,1)] [] ?_
    simp only [go_sem]
theorem M2 (a0 a1) (z1:Option Nat) (r) (h:Eo a0 a1=some r):AG Tryz.prog 16 [.own 1,.int .i64 a1] [(1,⟨List.map AO a0,z1,0,false⟩)] [] (.int .i64 r.1) [(1,⟨List.map AO r.2,z1,0,false⟩)] [] :=by
 unfold Eo at h
 refine agF Tryz.func16 mixed (h:=Z ?_)
 exact loG (Pj fuel a0 a1 0 z1 _ h) [(1,1)] []
theorem Pk (n:Nat):(∀a0 u w r,DI n a0 u w=some r→Af Tryz.prog Tryz.f17 [1,0,1,0] (.int .i64 r) ⟨[(0,.ro (a0.map AO)),(1,.int .i64 u),(5,.int .i64 w)],[],[]⟩):=by
 induction n with
 |zero=>exact((fun _ _ _ _ h=>by rw [DI] at h; cases h))
 | succ n ih=>
  have ih0:=ih
  ·intro a0 u w r h
   rw [DI] at h
   refine AN rfl rfl (Z ?_)
   refine AY (Z ?_)
   refine AB h (fun h=>Z ?_) (fun h=>Z ?_)
   ·refine AF ?_
    replace h:=AD h; obtain⟨y,q,h⟩:=h
    refine AL q rfl (Z ?_)
    refine Al (by decide) (Z ?_)
    refine AB h (fun h=>Z ?_) (fun h=>Z ?_)
    ·cases h
     simp only [go_sem]
    ·refine AF ?_
     refine AF ?_
     exact lpF (ih0 a0 (IntKind.i64.wrap (u+1)) (IntKind.i64.wrap (w+1)) _ h) [] []
   ·refine AF ?_
    cases h
    simp only [go_sem]
theorem M3 (a0 a1 r) (h:Fp a0 a1=some r):AC Tryz.prog 17 [.ro (a0.map AO),.int .i64 a1] (.int .i64 r):=by
 unfold Fp at h
 refine acF Tryz.func17 mixed (h:=Z ?_)
 exact loF (Pk fuel a0 a1 0 _ h) [] []
theorem Es (u:Int × (List Bool)) (w:Bool) (r:Bool) (h:Bu u w=some r):Af Tryz.prog Tryz.f3 [1,1,1,1,1,1,1,1,1,1,1,1,1,1,1,1,1,1,1,1,1,1,1,1,1,1,1,1,0,1] (.bool r) ⟨[(15,.own 1000002000),(18,.int .i64 u.1),(136,.bool w)],[(1000002000,some ⟨List.map AO u.2,some 1,0,false⟩)],[]⟩:=by
 unfold Bu at h
 refine AN rfl rfl (Z ?_)
 refine AB h (fun h=>Z ?_) (fun h=>Z ?_)
 ·cases h
  simp only [go_sem]
 ·refine AF ?_
  replace h:=AD h; obtain⟨y,q,h⟩:=h
  refine AH (M3 _ _ _ q) (Z ?_)
  refine AF ?_
  refine AB h (fun h=>Z ?_) (fun h=>Z ?_)
  ·cases h
   simp only [go_sem]
  ·refine AF ?_
   refine AB h (fun h=>Z ?_) (fun h=>Z ?_)
   ·cases h
    simp only [go_sem]
   ·refine AF ?_
    cases h
    simp only [go_sem]
theorem DM (a0:List Net) (a1:Net) (a2:List Bool) (a3:Int) (u:(List Bool) × Int) (w:(List Bool) × Int) (y:Bool) (r:Bool) (h:BU a0 a1 a2 a3 u w y=some r):Af Tryz.prog Tryz.f3 [1,1,1,1,1,1,1,1,1,1,1,1,1,1,1,1,1,1,1,1,0,1] (.bool r) ⟨[(0,.ro (a0.map Net.ds)),(2,.ro (a2.map AO)),(3,.int .i64 a3),(5,.box 1000001500 0),(10,.own 1000001000),(11,.int .i64 u.2),(15,.own 1000001001),(105,.bool y)],[(1000001000,some ⟨List.map AO u.1,some 1,0,false⟩),(1000001001,some ⟨List.map AO w.1,some 1,0,false⟩)],[(1000001500,some [.ro (a1.agents.map Agent.ds)])]⟩:=by
 unfold BU at h
 refine AN rfl rfl (Z ?_)
 refine AB h (fun h=>Z ?_) (fun h=>Z ?_)
 ·cases h
  simp only [go_sem]
 ·refine AF ?_
  replace h:=AD h; obtain⟨q,g,h⟩:=h
  refine caG ⟨[],[(1,1000001001)],[],[],[],true⟩ (M2 _ _ (some 1) _ g) (Z ?_)
  refine AF ?_
  replace h:=AD h; obtain⟨j,k,h⟩:=h
  refine AH (M3 _ _ _ k) (Z ?_)
  refine AF ?_
  refine AB h (fun h=>Z ?_) (fun h=>Z ?_)
  ·cases h
   simp only [go_sem]
  ·refine AF ?_
   refine AB h (fun h=>Z ?_) (fun h=>Z ?_)
   ·cases h
    simp only [go_sem]
   ·refine AF ?_
    refine AX [] .fin (by kernel_rfl) (Z ?_)
    replace h:=AD h; obtain⟨b,d,h⟩:=h
    refine AH (KC _ _ d) (Z ?_)
    replace h:=AD h; obtain⟨c,e,h⟩:=h
    refine AH (Jq _ _ e) (Z ?_)
    replace h:=AD h; obtain⟨i,l,h⟩:=h
    refine AH (Ir _ _ l) (Z ?_)
    replace h:=AD h; obtain⟨t,s,h⟩:=h
    refine AH (Ik _ _ _ _ _ s) (Z ?_)
    refine AF ?_
    replace h:=AD h; obtain⟨o,z,h⟩:=h
    refine AH (It _ _ _ z) (Z ?_)
    refine AB h (fun h=>Z ?_) (fun h=>Z ?_)
    ·exact AR (Es q true _ h) [(1000002000,1000001001)] []
    ·exact AR (Es q (!decide (t.2 =u.2)) _ h) [(1000002000,1000001001)] []
theorem Et (a0:List Net) (a1:Net) (a2:List Bool) (a3:Int) (u:(List Bool) × Int) (w:(List Net)) (y:Net) (q:(List Bool)) (g:(List Bool) × Int) (j:Bool) (r:Bool) (h:Bv a0 a1 a2 a3 u w y q g j=some r):Af Tryz.prog Tryz.f3 [1,1,1,1,1,1,1,1,1,1,1,1,0,1] (.bool r) ⟨[(0,.ro (a0.map Net.ds)),(2,.ro (a2.map AO)),(3,.int .i64 a3),(5,.box 1000000500 0),(10,.own 1000000000),(11,.int .i64 u.2),(12,.own 1000000001),(13,.box 1000000501 0),(14,.own 1000000003),(15,.own 1000000004),(16,.int .i64 g.2),(68,.bool j)],[(1000000000,some ⟨List.map AO u.1,some 1,0,false⟩),(1000000001,some ⟨List.map Net.ds w,some 1,0,false⟩),(1000000002,some ⟨List.map Agent.ds y.agents,some 5,0,false⟩),(1000000003,some ⟨List.map AO q,some 1,0,false⟩),(1000000004,some ⟨List.map AO g.1,some 1,0,false⟩)],[(1000000500,some [.ro (a1.agents.map Agent.ds)]),(1000000501,some [.own 1000000002])]⟩:=by
 unfold Bv at h
 refine AN rfl rfl (Z ?_)
 refine AB h (fun h=>Z ?_) (fun h=>Z ?_)
 ·cases h
  simp only [go_sem]
 ·refine AF ?_
  replace h:=AD h; obtain⟨k,b,h⟩:=h
  refine AH (KC _ _ b) (Z ?_)
  replace h:=AD h; obtain⟨d,c,h⟩:=h
  refine AH (Xd _ _ _ c) (Z ?_)
  refine AF ?_
  refine AB h (fun h=>Z ?_) (fun h=>Z ?_)
  ·cases h
   simp only [go_sem]
  ·refine AF ?_
   refine AX [] .fin (by kernel_rfl) (Z ?_)
   replace h:=AD h; obtain⟨e,i,h⟩:=h
   refine AH (Jq _ _ i) (Z ?_)
   replace h:=AD h; obtain⟨l,t,h⟩:=h
   refine AH (Sy _ _ _ t) (Z ?_)
   refine AF ?_
   refine AB h (fun h=>Z ?_) (fun h=>Z ?_)
   ·cases h
    simp only [go_sem]
   ·refine AF ?_
    replace h:=AD h; obtain⟨s,o,h⟩:=h
    refine AH (Ir _ _ o) (Z ?_)
    replace h:=AD h; obtain⟨z,u1,h⟩:=h
    refine AH (It _ _ _ u1) (Z ?_)
    refine AF ?_
    refine AB h (fun h=>Z ?_) (fun h=>Z ?_)
    ·cases h
     simp only [go_sem]
    ·refine AF ?_
     replace h:=AD h; obtain⟨u2,u3,h⟩:=h
     refine caG ⟨[],[(1,1000000001)],[],[],[],true⟩ (TY _ _ (some 1) _ u3) (Z ?_)
     refine AF ?_
     replace h:=AD h; obtain⟨u4,u5,h⟩:=h
     refine caG ⟨[],[(1,1000000002)],[],[],[],true⟩ (VX _ _ (some 5) _ u5) (Z ?_)
     refine AF ?_
     replace h:=AD h; obtain⟨u6,u7,h⟩:=h
     refine caG ⟨[],[(1,1000000003)],[],[],[],true⟩ (M2 _ _ (some 1) _ u7) (Z ?_)
     refine AF ?_
     refine AB h (fun h=>Z ?_) (fun h=>Z ?_)
     ·exact AR (DM a0 a1 a2 a3 u g true _ h) [(1000001000,1000000000),(1000001001,1000000004)] [(1000001500,1000000500)]
     ·replace h:=AD h; obtain⟨u8,u9,h⟩:=h
      refine AH (It _ _ _ u9) (Z ?_)
      refine AB h (fun h=>Z ?_) (fun h=>Z ?_)
      ·exact AR (DM a0 a1 a2 a3 u g true _ h) [(1000001000,1000000000),(1000001001,1000000004)] [(1000001500,1000000500)]
      ·exact AR (DM a0 a1 a2 a3 u g (!decide (g.2 =u.2)) _ h) [(1000001000,1000000000),(1000001001,1000000004)] [(1000001500,1000000500)]
theorem JR (a0 a1 a2 a3 r) (h:DO a0 a1 a2 a3=some r):AC Tryz.prog 3 [.ro (a0.map Net.ds),.agg (Net.avs a1),.ro (a2.map AO),.int .i64 a3] (.bool r):=by
 unfold DO at h
 refine acF Tryz.func3 mixed (h:=Z ?_)
 refine AB h (fun h=>Z ?_) (fun h=>Z ?_)
 ·cases h
  simp only [go_sem]
 ·refine AF ?_
  replace h:=AD h; obtain⟨u,w,h⟩:=h
  refine AH (Xe _ _ _ w) (Z ?_)
  refine AF ?_
  refine AB h (fun h=>Z ?_) (fun h=>Z ?_)
  ·cases h
   simp only [go_sem]
  ·refine AF ?_
   replace h:=AD h; obtain⟨y,q,h⟩:=h
   refine AH (Sz _ _ _ q) (Z ?_)
   refine AF ?_
   refine AB h (fun h=>Z ?_) (fun h=>Z ?_)
   ·cases h
    simp only [go_sem]
   ·refine AF ?_
    refine AX [] .fin (by kernel_rfl) (Z ?_)
    replace h:=AD h; obtain⟨g,j,h⟩:=h
    refine AH (KC _ _ j) (Z ?_)
    replace h:=AD h; obtain⟨k,b,h⟩:=h
    refine AH (Jq _ _ b) (Z ?_)
    replace h:=AD h; obtain⟨d,c,h⟩:=h
    refine AH (Ir _ _ c) (Z ?_)
    replace h:=AD h; obtain⟨e,i,h⟩:=h
    refine AH (Ne _ _ _ _ _ i) (Z ?_)
    refine AF ?_
    replace h:=AD h; obtain⟨l,t,h⟩:=h
    refine AH (KC _ _ t) (Z ?_)
    refine AF ?_
    replace h:=AD h; obtain⟨s,o,h⟩:=h
    refine AH (Jq _ _ o) (Z ?_)
    refine AF ?_
    replace h:=AD h; obtain⟨z,u1,h⟩:=h
    refine AH (Ir _ _ u1) (Z ?_)
    refine AF ?_
    replace h:=AD h; obtain⟨u2,u3,h⟩:=h
    refine AH (Ik _ _ _ _ _ u3) (Z ?_)
    refine AF ?_
    replace h:=AD h; obtain⟨u4,u5,h⟩:=h
    refine AH (It _ _ _ u5) (Z ?_)
    refine AB h (fun h=>Z ?_) (fun h=>Z ?_)
    ·exact AR (Et a0 a1 a2 a3 e l s z u2 true _ h) [(1000000000,176112),(1000000001,192016),(1000000002,208016),(1000000003,224016),(1000000004,240064)] [(1000000500,1000),(1000000501,13002)]
    ·exact AR (Et a0 a1 a2 a3 e l s z u2 (!decide (u2.2 =e.2)) _ h) [(1000000000,176112),(1000000001,192016),(1000000002,208016),(1000000003,224016),(1000000004,240064)] [(1000000500,1000),(1000000501,13002)]
end Go.Proofs.YteckcjgpnegkjaaGreat.Ab
