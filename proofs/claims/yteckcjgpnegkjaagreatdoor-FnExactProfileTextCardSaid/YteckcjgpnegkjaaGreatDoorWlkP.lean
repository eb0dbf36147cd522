/-
 The functions do what their models say. Printed by wip/ab/gen.py.
-/
import Derived.Test.YteckcjgpnegkjaaGreatDoorModP
import Derived.Test.YteckcjgpnegkjaaGreatDoorTi2
import Derived.Test.YteckcjgpnegkjaaGreatDoorPtT
import Derived.Test.YteckcjgpnegkjaaGreatDoorWlkS
import Derived.Test.YteckcjgpnegkjaaGreatDoorWlkQ
namespace Go.Proofs.YteckcjgpnegkjaaGreatDoor.Ab
set_option linter.defProp false
set_option linter.unusedVariables false
set_option linter.unusedSimpArgs false
set_option maxRecDepth 20000
set_option maxHeartbeats 4000000
open Go.RowKit
theorem Pt (n:Nat):(∀a0 u w r,ER n a0 u w=some r→Aq Tryz.prog Tryz.f42 [1,1,0,1,0] (.int .i64 r) ⟨[(0,.ro (List.map (slD AS) a0)),(3,.int .i64 u),(4,.int .i64 w)],[],[]⟩):=by
 induction n with
 |zero=>exact((fun _ _ _ _ h=>by rw [ER] at h; cases h))
 | succ n ih=>
  have ih0:=ih
  ·intro a0 u w r h
   rw [ER] at h
   refine AO rfl rfl (Z ?_)
   refine AZ (Z ?_)
   refine AD h (fun h=>Z ?_) (fun h=>Z ?_)
   ·refine AF ?_
    replace h:=AB h; obtain⟨y,q,h⟩:=h
    refine AM q rfl (Z ?_)
    refine AF ?_
    exact lpF (ih0 a0 (IntKind.i64.wrap (u+(y.length:Int))) (IntKind.i64.wrap (w+1)) _ h) [] []
   ·refine AF ?_
    cases h
    simp only [go_sem]
theorem T4 (a0 r) (h:ME a0=some r):AC Tryz.prog 42 [.ro (List.map (slD AS) a0)] (.int .i64 r):=by
 unfold ME at h
 refine acF Tryz.func42 mixed (h:=Z ?_)
 exact loF (Pt fuel a0 0 0 _ h) [] []
theorem NQ (n:Nat):(∀a0 u w r,CU n a0 u w=some r→Aq Tryz.prog Tryz.f43 [1,1,0,1,0] (.ow (some 1) (r.map AS)) ⟨[(0,.ro (a0.map AS)),(3,.own 1000001000),(4,.int .i64 w)],[(1000001000,some ⟨List.map AS u,some 1,0,false⟩)],[]⟩):=by
 induction n with
 |zero=>exact((fun _ _ _ _ h=>by rw [CU] at h; cases h))
 | succ n ih=>
  have ih0:=ih
  ·intro a0 u w r h
   rw [CU] at h
   refine AO rfl rfl (Z ?_)
   refine AZ (Z ?_)
   refine AD h (fun h=>Z ?_) (fun h=>Z ?_)
   ·refine AF ?_
    replace h:=AB h; obtain⟨y,q,h⟩:=h
    refine AM q rfl (Z ?_)
    replace h:=AB h; obtain⟨g,j,h⟩:=h
    refine AM j rfl (Z ?_)
    refine Ac (AX j) (Z ?_)
    replace h:=AB h; obtain⟨k,b,h⟩:=h
    refine AM b rfl (Z ?_)
    replace h:=AB h; obtain⟨d,c,h⟩:=h
    refine Ac (AX b) (Z ?_)
    refine A6 (d.map AS) (by rw [← BW c]; simp only [List.map_set,go_sem,slD]) (Z ?_)
    refine AF ?_
    exact lpF (ih0 a0 d (IntKind.i64.wrap (w+1)) _ h) [(1000001000,1000001000)] []
   ·refine AF ?_
    cases h
    simp only [go_sem]
theorem Pu (a0 r) (h:Hl a0=some r):AC Tryz.prog 43 [.ro (a0.map AS)] (.ow (some 1) (r.map AS)):=by
 unfold Hl at h
 refine acF Tryz.func43 mixed (h:=Z ?_)
 refine AF ?_
 refine CF (DU rfl rfl (NQ fuel a0 [0,0,0,0,0,0,0] 0 _ h):) (.one ⟨_,.lit 3 2000000000 2000 7 1 false [] _ _ (by (first|rfl|(simp only [go_sem]; rfl))) (by simp only [go_sem]; rfl) (by (first|rfl|(simp only [go_sem]; rfl))) (by (first|rfl|(simp only [go_sem]; rfl))) (by decide) (by decide) (by simp only [go_sem]) (.done _),[(1000001000,2000000000)],[],?_⟩)
 simp only [go_sem]
 all_goals try rfl
theorem Pv  (r:(List ByteArray)) (h:Hm=some r):AG Tryz.prog 96 [] [] [] (.own 1501) [(1501,⟨List.map ml r,some 1,0,false⟩)] [] :=by
 unfold Hm at h
 refine agF Tryz.func96 mixed (h:=Z ?_)
 refine AF ?_
 cases h
 refine BB (.lit 0 2000000000 2000 8 1 false [] _ _ (by (first|rfl|(simp only [go_sem]; rfl))) (by simp only [go_sem]; rfl) (by (first|rfl|(simp only [go_sem]; rfl))) (by (first|rfl|(simp only [go_sem]; rfl))) (by decide) (by decide) (by simp only [go_sem]) (.done _)) [(1501,2000000000)] [] ?_
 simp only [go_sem]
 all_goals try rfl
theorem RU (a0 r) (h:I6 a0=some r):AC Tryz.prog 44 [.int .i64 a0] (.str r):=by
 unfold I6 at h
 refine acF Tryz.func44 mixed (h:=Z ?_)
 replace h:=AB h; obtain⟨u,w,h⟩:=h
 refine AI (BV _ _ _ _ w) (Z ?_)
 refine AF ?_
 refine AD h (fun h=>Z ?_) (fun h=>Z ?_)
 ·cases h
  simp only [go_sem]
 ·refine AF ?_
  replace h:=AB h; obtain⟨y,q,h⟩:=h
  refine e9 (Pv  _ q) (by (first|rfl|(simp only [go_sem]; rfl))) (Z ?_)
  replace h:=AB h; obtain⟨g,j,h⟩:=h
  refine AM j rfl (Z ?_)
  refine Ac (AX j) (Z ?_)
  refine AF ?_
  cases h
  simp only [go_sem]
theorem MW (n:Nat):(∀u w y r,Bk n u w y=some r→DF Tryz.prog Tryz.f19 [1,1,1,1,1,1,1,1,0,1,0] (.tup [.str r.1,.int .i64 r.2]) [] [] ⟨[(13,.str w),(14,.own 1000003000),(15,.int .i64 y)],[(1000003000,some ⟨List.map AS u,some 1,0,false⟩)],[]⟩):=by
 induction n with
 |zero=>exact((fun _ _ _ _ h=>by rw [Bk] at h; cases h))
 | succ n ih=>
  have ih0:=ih
  ·intro u w y r h
   rw [Bk] at h
   refine A5 rfl rfl (Z ?_)
   refine AZ (Z ?_)
   refine AD h (fun h=>Z ?_) (fun h=>Z ?_)
   ·refine AF ?_
    replace h:=AB h; obtain⟨q,g,h⟩:=h
    refine AM g rfl (Z ?_)
    refine Ac (AX g) (Z ?_)
    refine AD h (fun h=>Z ?_) (fun h=>Z ?_)
    ·refine Aa [] .fin (by kernel_rfl) (Z ?_)
     replace h:=AB h; obtain⟨j,k,h⟩:=h
     refine AI (RU _ _ k) (Z ?_)
     replace h:=AB h; obtain⟨b,d,h⟩:=h
     have hq_:=FL d
     obtain⟨hv18004a,hv18004b⟩:=hq_
     refine Al hv18004a ?_
     rw [hv18004b]
     try simp only [go_sem]
     replace h:=AB h; obtain⟨c,e,h⟩:=h
     have hq_:=FL e
     obtain⟨hv18005a,hv18005b⟩:=hq_
     refine Al hv18005a ?_
     rw [hv18005b]
     try simp only [go_sem]
     replace h:=AB h; obtain⟨i,l,h⟩:=h
     refine AM l rfl (Z ?_)
     refine Ac (AX l) (Z ?_)
     replace h:=AB h; obtain⟨t,s,h⟩:=h
     refine AI (Ht _ _ s) (Z ?_)
     replace h:=AB h; obtain⟨o,z,h⟩:=h
     have hq_:=FL z
     obtain⟨hv18011a,hv18011b⟩:=hq_
     refine Al hv18011a ?_
     rw [hv18011b]
     try simp only [go_sem]
     replace h:=AB h; obtain⟨u1,u2,h⟩:=h
     have hq_:=FL u2
     obtain⟨hv18012a,hv18012b⟩:=hq_
     refine Al hv18012a ?_
     rw [hv18012b]
     try simp only [go_sem]
     refine AF ?_
     exact lpG (ih0 u u1 (IntKind.i64.wrap (y+1)) _ h) [(1000003000,1000003000)] []
    ·refine AF ?_
     exact lpG (ih0 u w (IntKind.i64.wrap (y+1)) _ h) [(1000003000,1000003000)] []
   ·refine AF ?_
    cases h
    refine BB (.done _) [] [] ?_
    simp only [go_sem]
theorem MX (n:Nat):(∀u w y q r,BA n u w y q=some r→DF Tryz.prog Tryz.f19 [1,1,1,1,1,0,1,0] (.tup [.str r.1,.int .i64 r.2]) [] [] ⟨[(8,.ro (List.map (slD AS) u.1)),(10,.int .i64 w),(11,.own 1000001000),(12,.int .i64 q)],[(1000001000,some ⟨List.map AS y,some 1,0,false⟩)],[]⟩):=by
 induction n with
 |zero=>exact((fun _ _ _ _ _ h=>by rw [BA] at h; cases h))
 | succ n ih=>
  have ih0:=ih
  ·intro u w y q r h
   rw [BA] at h
   refine A5 rfl rfl (Z ?_)
   refine AZ (Z ?_)
   refine AD h (fun h=>Z ?_) (fun h=>Z ?_)
   ·refine AF ?_
    replace h:=AB h; obtain⟨g,j,h⟩:=h
    refine AM j rfl (Z ?_)
    replace h:=AB h; obtain⟨k,b,h⟩:=h
    refine AI (Lq _ _ _ b) (Z ?_)
    refine AF ?_
    replace h:=AB h; obtain⟨d,c,h⟩:=h
    refine AM c rfl (Z ?_)
    replace h:=AB h; obtain⟨e,i,h⟩:=h
    have hq_:=Av i
    obtain⟨hv11005a,hv11005b⟩:=hq_
    refine Cz false (Z ?_)
    refine Al (FM (by intro x; exact⟨rfl,by simp [go_sem,D.flat]⟩) _) (Z ?_)
    refine Al (by refine⟨?_,?_⟩ <;> (try simp only [List.length_map,List.length_append,List.length_cons,List.length_nil] at*) <;> (try unfold maxLen) <;> omega) (Z ?_)
    refine A6 (e.map AS) (by rw [← hv11005b]; simp only [List.map_append,List.map_cons,List.map_nil,List.nil_append,List.append_nil,go_sem,slD]) (Z ?_)
    refine AF ?_
    exact lpG (ih0 u k e (IntKind.i64.wrap (q+1)) _ h) [(1000001000,176080)] []
   ·refine AF ?_
    replace h:=AB h; obtain⟨l,t,h⟩:=h
    refine AI (T4 _ _ t) (Z ?_)
    replace h:=AB h; obtain⟨s,o,h⟩:=h
    refine AI (Ht _ _ o) (Z ?_)
    replace h:=AB h; obtain⟨z,u1,h⟩:=h
    have hq_:=FL u1
    obtain⟨hv12003a,hv12003b⟩:=hq_
    refine Al hv12003a ?_
    rw [hv12003b]
    try simp only [go_sem]
    replace h:=AB h; obtain⟨u2,u3,h⟩:=h
    have hq_:=FL u3
    obtain⟨hv12004a,hv12004b⟩:=hq_
    refine Al hv12004a ?_
    subst hv12004b
    try simp only [go_sem]
    replace h:=AB h; obtain⟨u4,u5,h⟩:=h
    refine AI (Ht _ _ u5) (Z ?_)
    replace h:=AB h; obtain⟨u6,u7,h⟩:=h
    have hq_:=FL u7
    obtain⟨hv12008a,hv12008b⟩:=hq_
    refine Al (by have hq_:=hv12008a; simp only [ByteArray.size_append] at hq_; exact hq_) ?_
    rw [hv12008b]
    try simp only [go_sem]
    replace h:=AB h; obtain⟨u8,u9,h⟩:=h
    have hq_:=FL u9
    obtain⟨hv12009a,hv12009b⟩:=hq_
    refine Al hv12009a ?_
    subst hv12009b
    try simp only [go_sem]
    replace h:=AB h; obtain⟨u10,u11,h⟩:=h
    refine AI (Ht _ _ u11) (Z ?_)
    replace h:=AB h; obtain⟨u12,u13,h⟩:=h
    have hq_:=FL u13
    obtain⟨hv12012a,hv12012b⟩:=hq_
    refine Al (by have hq_:=hv12012a; simp only [ByteArray.size_append] at hq_; exact hq_) ?_
    rw [hv12012b]
    try simp only [go_sem]
    refine AF ?_
    replace h:=AB h; obtain⟨u14,u15,h⟩:=h
    refine AI (Pu _ _ u15) (Z ?_)
    refine AF ?_
    exact loG (MW fuel u14 u12 0 _ h) [(1000003000,208016)] []
theorem O6 (a0 a1 a2 r) (h:Ff a0 a1 a2=some r):AG Tryz.prog 19 [.ro (a0.map Net.ds),.agg [.ro (a1.agents.map Agent.ds)],.int .i64 a2] [] [] (.tup [.str r.1,.int .i64 r.2]) [] [] :=by
 unfold Ff at h
 refine agF Tryz.func19 mixed (h:=Z ?_)
 replace h:=AB h; obtain⟨u,w,h⟩:=h
 refine AI (RW _ _ _ _ _ w) (Z ?_)
 refine AF ?_
 refine AD h (fun h=>Z ?_) (fun h=>Z ?_)
 ·cases h
  refine BB (.done _) [] [] ?_
  simp only [go_sem]
 ·refine AF ?_
  refine AF ?_
  refine CF (Fm rfl rfl (MX fuel u 0 [] 0 _ h):) (.one ⟨_,.lit 11 2000000000 6000 0 1 false [] _ _ (by (first|rfl|(simp only [go_sem]; rfl))) (by simp only [go_sem]; rfl) (by (first|rfl|(simp only [go_sem]; rfl))) (by (first|rfl|(simp only [go_sem]; rfl))) (by decide) (by decide) (by simp only [go_sem]) (.frzT 32032 [(19,[0]),(16,[0]),(20,[]),(8,[])] [] _ _ _ (by (first|rfl|(simp only [go_sem]; rfl))) (by decide) (by (first|rfl|(simp only [go_sem]; rfl))) (by (first|rfl|(simp only [go_sem]; rfl))) (.done _)),[(1000001000,2000000000)],[],?_⟩)
  simp only [go_sem]
  all_goals try rfl
theorem Kp (n:Nat):(∀u w y q r,Ah n u w y q=some r→RL Tryz.prog Tryz.f20 ptH hh [1,1,1,1,1,0,1,0] (.tup [.str r.1,.int .i64 r.2]) ⟨[(8,.ro (List.map (slD AS) u.1)),(10,.int .i64 w),(11,.own 1000003000),(30,.ro (List.map (slD AS) u.1)),(31,.int .i64 ((List.length u.1 :Nat):Int)),(32,.int .i64 q)],[(1000003000,some ⟨List.map AS y,some 1,0,false⟩)],[]⟩)∧
    (∀w q u g j k b r,Bt n w q u g j k b=some r→RL Tryz.prog Tryz.f20 ptH hh [1,1,1,1,1,0,1,0,0,1,1,0,0,1,1,1,0] (.tup [.str r.1,.int .i64 r.2]) ⟨[(8,.ro (List.map (slD AS) u.1)),(10,.int .i64 (if w<j then j else w)),(11,.own 1000005000),(30,.ro (List.map (slD AS) u.1)),(31,.int .i64 ((List.length u.1 :Nat):Int)),(32,.int .i64 q),(40,.ro (g.map AS)),(41,.int .i64 (g.length:Int)),(42,.int .i64 b)],[(1000005000,some ⟨List.map AS k,some 1,0,false⟩)],[]⟩):=by
 induction n with
 |zero=>exact⟨(fun _ _ _ _ _ h=>by rw [Ah] at h; cases h),(fun _ _ _ _ _ _ _ _ h=>by rw [Bt] at h; cases h)⟩
 | succ n ih=>
  obtain⟨ih0,ih1⟩:=ih
  refine⟨?_,?_⟩
  ·intro u w y q r h
   rw [Ah] at h
   refine V5 rfl rfl (Z ?_)
   refine AZ (Z ?_)
   refine AD h (fun h=>Z ?_) (fun h=>Z ?_)
   ·refine AF ?_
    replace h:=AB h; obtain⟨g,d,h⟩:=h
    refine AM d rfl (Z ?_)
    replace h:=AB h; obtain⟨j,c,h⟩:=h
    refine AI (V7 _ _ c) (Z ?_)
    refine AF ?_
    refine CF (OB rfl rfl (ih1 w q u g j y 0 _ h):) (.one ⟨_,.done _,[(1000005000,1000003000)],[],?_⟩)
    try simp only [go_sem]
   ·refine AF ?_
    exact jH rfl rfl rfl h (List.length_map _) rfl
  ·intro w q u g j k b r h
   rw [Bt] at h
   refine V5 rfl rfl (Z ?_)
   refine AZ (Z ?_)
   refine AD h (fun h=>Z ?_) (fun h=>Z ?_)
   ·refine AF ?_
    replace h:=AB h; obtain⟨e,i,h⟩:=h
    refine AM i rfl (Z ?_)
    replace h:=AB h; obtain⟨l,t,h⟩:=h
    refine AM t rfl (Z ?_)
    refine Ac (AX t) (Z ?_)
    replace h:=AB h; obtain⟨s,o,h⟩:=h
    refine AM o rfl (Z ?_)
    replace h:=AB h; obtain⟨z,u1,h⟩:=h
    refine Ac (AX o) (Z ?_)
    refine A6 (z.map AS) (by rw [← BW u1]; simp only [List.map_set,go_sem,slD]) (Z ?_)
    refine AF ?_
    refine PU (OB rfl rfl (ih1 w q u g j z (IntKind.i64.wrap (b+1)) _ h):) (.one ⟨_,.done _,[(1000005000,1000005000)],[],?_⟩)
    try simp only [go_sem]
   ·refine AF ?_
    refine PU (OB rfl rfl (ih0 u (if w<j then j else w) k (IntKind.i64.wrap (q+1)) _ h):) (.one ⟨_,.done _,[(1000003000,1000005000)],[],?_⟩)
    try simp only [go_sem]
def Lw (n:Nat):=(Kp n).1
theorem O7 (a0 a1 a2 r) (h:Fg a0 a1 a2=some r):AC Tryz.prog 20 [.ro (a0.map Net.ds),.agg (Net.avs a1),.int .i64 a2] (.tup [.str r.1,.int .i64 r.2]):=by
 unfold Fg at h
 refine jG mixed hh ptH Tryz.func20 rfl rfl rfl (by kernel_rfl) (by kernel_rfl) Z6 (Z ?_)
 replace h:=AB h; obtain⟨u,w,h⟩:=h
 refine W0 (R3 _ _ _ _ w) (by (first|rfl|(simp only [go_sem]; rfl))) (by first|rfl|(simp only [go_sem])) (Z ?_)
 refine AF ?_
 refine AD h (fun h=>Z ?_) (fun h=>Z ?_)
 ·cases h
  simp only [go_sem]
 ·refine AF ?_
  replace h:=AB h; obtain⟨y,q,h⟩:=h
  have hq_:=Fc q
  obtain⟨hv6000a,hv6000b,hv6000c⟩:=hq_
  refine Al (by refine⟨?_,?_,?_⟩ <;> omega) (Z ?_)
  refine A6 (y.map AS) (by rw [← hv6000c]; simp only [List.map_replicate,go_sem,slD]) (Z ?_)
  refine AF ?_
  refine CF (OB rfl rfl (Lw fuel u 0 y 0 _ h):) (.one ⟨_,.done _,[(1000003000,96000)],[],?_⟩)
  try simp only [go_sem]
theorem FJ (a0:List Net) (a1:Net) (u:(List Net)) (w:Net) (y:Bool) (r:Bool) (h:CD a0 a1 u w y=some r):Aq Tryz.prog Tryz.f4 [1,1,1,1,1,1,1,1,1,1,0,1] (.bool r) ⟨[(0,.ro (a0.map Net.ds)),(4,.box 1000000500 0),(10,.own 1000000000),(11,.box 1000000501 0),(51,.bool y)],[(1000000000,some ⟨List.map Net.ds u,some 1,0,false⟩),(1000000001,some ⟨List.map Agent.ds w.agents,some 5,0,false⟩)],[(1000000500,some [.ro (a1.agents.map Agent.ds)]),(1000000501,some [.own 1000000001])]⟩:=by
 unfold CD at h
 refine AO rfl rfl (Z ?_)
 refine AD h (fun h=>Z ?_) (fun h=>Z ?_)
 ·cases h
  simp only [go_sem]
 ·refine AF ?_
  replace h:=AB h; obtain⟨q,g,h⟩:=h
  refine AI (Lx _ _ g) (Z ?_)
  replace h:=AB h; obtain⟨j,k,h⟩:=h
  refine AI (WC _ _ _ k) (Z ?_)
  refine AF ?_
  refine AD h (fun h=>Z ?_) (fun h=>Z ?_)
  ·cases h
   simp only [go_sem]
  ·refine AF ?_
   refine Aa [] .fin (by kernel_rfl) (Z ?_)
   replace h:=AB h; obtain⟨b,d,h⟩:=h
   refine AI (Kb _ _ d) (Z ?_)
   replace h:=AB h; obtain⟨c,e,h⟩:=h
   refine AI (RX _ _ _ e) (Z ?_)
   refine AF ?_
   refine AD h (fun h=>Z ?_) (fun h=>Z ?_)
   ·cases h
    simp only [go_sem]
   ·refine AF ?_
    cases h
    simp only [go_sem]
theorem Jf (a0 a1 a2 r) (h:Dl a0 a1 a2=some r):AC Tryz.prog 4 [.ro (a0.map Net.ds),.agg (Net.avs a1),.int .i64 a2] (.bool r):=by
 unfold Dl at h
 refine acF Tryz.func4 mixed (h:=Z ?_)
 replace h:=AB h; obtain⟨u,w,h⟩:=h
 refine AI (WD _ _ _ w) (Z ?_)
 refine AF ?_
 refine AD h (fun h=>Z ?_) (fun h=>Z ?_)
 ·cases h
  simp only [go_sem]
 ·refine AF ?_
  replace h:=AB h; obtain⟨y,q,h⟩:=h
  refine AI (RY _ _ _ q) (Z ?_)
  refine AF ?_
  refine AD h (fun h=>Z ?_) (fun h=>Z ?_)
  ·cases h
   simp only [go_sem]
  ·refine AF ?_
   refine Aa [false,false,false,false,false,true,true,true,true,true,true] (Tr.sq [5,6,7,8,9,10] .fin) (by kernel_rfl) (Z ?_)
   replace h:=AB h; obtain⟨g,j,h⟩:=h
   refine AI (Lx _ _ j) (Z ?_)
   replace h:=AB h; obtain⟨k,b,h⟩:=h
   refine AI (Kb _ _ b) (Z ?_)
   replace h:=AB h; obtain⟨d,c,h⟩:=h
   refine caG ⟨[],[],[],[],[],false⟩ (O6 _ _ _ _ c) (Z ?_)
   refine AF ?_
   replace h:=AB h; obtain⟨e,i,h⟩:=h
   refine AI (Lx _ _ i) (Z ?_)
   refine AF ?_
   replace h:=AB h; obtain⟨l,t,h⟩:=h
   refine AI (Kb _ _ t) (Z ?_)
   refine AF ?_
   replace h:=AB h; obtain⟨s,o,h⟩:=h
   refine AI (O7 _ _ _ _ o) (Z ?_)
   refine AF ?_
   refine AD h (fun h=>Z ?_) (fun h=>Z ?_)
   ·exact AY (FJ a0 a1 e l true _ h) [(1000000000,160016),(1000000001,176016)] [(1000000500,1000),(1000000501,11002)]
   ·exact AY (FJ a0 a1 e l (!decide (s.2 =d.2)) _ h) [(1000000000,160016),(1000000001,176016)] [(1000000500,1000),(1000000501,11002)]
end Go.Proofs.YteckcjgpnegkjaaGreatDoor.Ab
