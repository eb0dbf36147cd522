/-
 The functions do what their models say. Printed by wip/ab/gen.py.
-/
import Derived.Test.YtckcfdggbbabfaaGreatModL
import Derived.Test.YtckcfdggbbabfaaGreatTi2
import Derived.Test.YtckcfdggbbabfaaGreatWlkU
namespace Go.Proofs.YtckcfdggbbabfaaGreat.Ab
set_option linter.unusedVariables false
set_option linter.unusedSimpArgs false
set_option maxRecDepth 20000
set_option maxHeartbeats 4000000
open Go.RowKit
theorem Fv (a0 a1 a2 r) (h:s_l11Link a0 a1 a2=some r):AG Tryz.prog 193 [.box 1 0,.agg [.int .i64 a1.agent,.int .i64 a1.slot],.agg [.int .i64 a2.agent,.int .i64 a2.slot]] [(1001,⟨List.map Agent.ds a0.agents,some 5,0,false⟩)] [(1,[.own 1001])] (.tup []) [(1501,⟨List.map Agent.ds r.agents,some 5,0,false⟩)] [(1,[.own 1501])] :=by
 unfold s_l11Link at h
 refine agF Tryz.func193 mixed (h:=Z ?_)
 refine AY [false,false,false,false,false,false,false,false,false,false,false,false,false,true] (Tr.sq [13] .fin) (by kernel_rfl) (Z ?_)
 replace h:=AB h; obtain⟨u,w,h⟩:=h
 refine AM w (Agent.ds_len _) (Z ?_)
 refine AZ (AP w) (Z ?_)
 replace h:=AB h; obtain⟨y,q,h⟩:=h
 refine AZ (DJ (sz:=5) (j:=4) (r:=List.map Port.ds u.ports) (AP (f:=Agent.ds) w) (Agent.ds_len _) (by rw [Agent.ds_eq]; rfl)) (Z ?_)
 refine AM q (Port.ds_len _) (Z ?_)
 replace h:=AB h; obtain⟨g,k,h⟩:=h
 replace h:=AB h; obtain⟨b,d,h⟩:=h
 refine AZ (DJ (sz:=5) (j:=4) (r:=List.map Port.ds u.ports) (AP (f:=Agent.ds) w) (Agent.ds_len _) (by rw [Agent.ds_eq]; rfl)) (Z ?_)
 refine AZ (AP q) (Z ?_)
 try refine BC ⟨List.cons_ne_nil _ _,by rfl,by decide,by rfl⟩ ?_
 try simp only [go_sem]
 refine An (List.map Agent.ds b) ((GT (AP (f:=Agent.ds) w) (d':=.sl (List.map Port.ds u.ports)) (by simp only [go_sem,Agent.ds_eq])).trans (by rw [← Ao d,← Ao k]; simp only [List.map_set,List.set_cons_succ,List.set_cons_zero,go_sem,Agent.ds_eq,Port.ds_eq])) (Z ?_)
 refine AF ?_
 refine AY [false,false,false,false,false,false,false,false,false,false,false,false,false,true] (Tr.sq [13] .fin) (by kernel_rfl) (Z ?_)
 replace h:=AB h; obtain⟨c,e,h⟩:=h
 refine AM e (Agent.ds_len _) (Z ?_)
 refine AZ (AP e) (Z ?_)
 replace h:=AB h; obtain⟨i,l,h⟩:=h
 refine AZ (DJ (sz:=5) (j:=4) (r:=List.map Port.ds c.ports) (AP (f:=Agent.ds) e) (Agent.ds_len _) (by rw [Agent.ds_eq]; rfl)) (Z ?_)
 refine AM l (Port.ds_len _) (Z ?_)
 replace h:=AB h; obtain⟨t,s,h⟩:=h
 replace h:=AB h; obtain⟨o,z,h⟩:=h
 refine AZ (DJ (sz:=5) (j:=4) (r:=List.map Port.ds c.ports) (AP (f:=Agent.ds) e) (Agent.ds_len _) (by rw [Agent.ds_eq]; rfl)) (Z ?_)
 refine AZ (AP l) (Z ?_)
 try refine BC ⟨List.cons_ne_nil _ _,by rfl,by decide,by rfl⟩ ?_
 try simp only [go_sem]
 refine An (List.map Agent.ds o) ((GT (AP (f:=Agent.ds) e) (d':=.sl (List.map Port.ds c.ports)) (by simp only [go_sem,Agent.ds_eq])).trans (by rw [← Ao z,← Ao s]; simp only [List.map_set,List.set_cons_succ,List.set_cons_zero,go_sem,Agent.ds_eq,Port.ds_eq])) (Z ?_)
 cases h
 refine A7 (.done _) [(1501,1001)] [(1,1)] ?_
 simp only [go_sem]
theorem LJ (a0 a1 r) (h:Gi a0 a1=some r):AC Tryz.prog 192 [.rop (Net.avs a0) 0,.agg (Port.avs a1)] (.agg (Port.rv r)):=by
 unfold Gi at h
 refine acF Tryz.func192 mixed (h:=Z ?_)
 refine AF ?_
 refine AY [false,false,false,false,false,false,false,false,false,false,false,false,false,true] (Tr.sq [13] .fin) (by kernel_rfl) (Z ?_)
 replace h:=AB h; obtain⟨u,w,h⟩:=h
 refine AM w (Agent.ds_len _) (Z ?_)
 replace h:=AB h; obtain⟨y,q,h⟩:=h
 refine AM q (Port.ds_len _) (Z ?_)
 refine AF ?_
 cases h
 simp only [go_sem]
theorem Ox (a0 a1 a2 r) (h:Fn a0 a1 a2=some r):AG Tryz.prog 127 [.box 1 0,.agg [.int .i64 a1.agent,.int .i64 a1.slot],.agg [.int .i64 a2.agent,.int .i64 a2.slot]] [(1001,⟨List.map Agent.ds a0.agents,some 5,0,false⟩)] [(1,[.own 1001])] (.tup []) [(1501,⟨List.map Agent.ds r.agents,some 5,0,false⟩)] [(1,[.own 1501])] :=by
 unfold Fn at h
 refine agF Tryz.func127 mixed (h:=Z ?_)
 replace h:=AB h; obtain⟨u,w,h⟩:=h
 refine AH (LJ _ _ _ w) (Z ?_)
 refine AF ?_
 replace h:=AB h; obtain⟨y,q,h⟩:=h
 refine AH (LJ _ _ _ q) (Z ?_)
 refine AF ?_
 refine AD h (fun h=>Z ?_) (fun h=>Z ?_)
 ·replace h:=AB h; obtain⟨g,j,h⟩:=h
  refine caG ⟨[],[(1001,1001)],[(1,1,0)],[(1501,80048)],[],true⟩ (Fv _ _ _ _ j) (Z ?_)
  cases h
  refine A7 (.done _) [(1501,80048)] [(1,1)] ?_
  simp only [go_sem]
 ·cases h
  refine A7 (.done _) [(1501,1001)] [(1,1)] ?_
  simp only [go_sem]
theorem Cq (a0 a1 a2 r) (h:Bj a0 a1 a2=some r):AG Tryz.prog 131 [.box 1 0,.agg [.int .i64 a1.agent,.int .i64 a1.slot],.agg [.int .i64 a2.agent,.int .i64 a2.slot]] [(1001,⟨List.map Agent.ds a0.agents,some 5,0,false⟩)] [(1,[.own 1001])] (.tup []) [(1501,⟨List.map Agent.ds r.agents,some 5,0,false⟩)] [(1,[.own 1501])] :=by
 unfold Bj at h
 refine agF Tryz.func131 mixed (h:=Z ?_)
 refine AY [false,false,false,false,false,true] (Tr.sq [5] .fin) (by kernel_rfl) (Z ?_)
 replace h:=AB h; obtain⟨u,w,h⟩:=h
 refine AH (LJ _ _ _ w) (Z ?_)
 replace h:=AB h; obtain⟨y,q,h⟩:=h
 refine caG ⟨[],[(1001,1001)],[(1,1,0)],[(1501,32080)],[],true⟩ (Fv _ _ _ _ q) (Z ?_)
 cases h
 refine A7 (.done _) [(1501,32080)] [(1,1)] ?_
 simp only [go_sem]
theorem Oy (a0 a1 a2 a3 r) (h:Ij a0 a1 a2 a3=some r):AC Tryz.prog 223 [.int .i64 a0,.int .i64 a1,.int .i64 a2,.int .i64 a3] (.bool r):=by
 unfold Ij at h
 refine acF Tryz.func223 mixed (h:=Z ?_)
 replace h:=AB h; obtain⟨u,w,h⟩:=h
 refine AH (Ho _ _ _ w) (Z ?_)
 refine AD h (fun h=>Z ?_) (fun h=>Z ?_)
 ·replace h:=AB h; obtain⟨y,q,h⟩:=h
  refine AH (Ho _ _ _ q) (Z ?_)
  refine AD h (fun h=>Z ?_) (fun h=>Z ?_)
  ·refine AD h (fun h=>Z ?_) (fun h=>Z ?_)
   ·refine AF ?_
    cases h
    simp only [go_sem]
   ·refine AF ?_
    cases h
    simp only [go_sem]
  ·refine AF ?_
   cases h
   simp only [go_sem]
 ·refine AF ?_
  cases h
  simp only [go_sem]
theorem JS (a0:Int) (a1:Int) (a2:Int) (u:Bool) (r:Bool) (h:E7 a0 a1 a2 u=some r):Al Tryz.prog Tryz.f243 [1,1,0,1] (.bool r) ⟨[(0,.int .i64 a0),(1,.int .i64 a1),(2,.int .i64 a2),(21,.bool u)],[],[]⟩:=by
 unfold E7 at h
 refine AN rfl rfl (Z ?_)
 refine AD h (fun h=>Z ?_) (fun h=>Z ?_)
 ·cases h
  simp only [go_sem]
 ·refine AF ?_
  replace h:=AB h; obtain⟨w,y,h⟩:=h
  refine AH (J4 _ _ y) (Z ?_)
  refine AD h (fun h=>Z ?_) (fun h=>Z ?_)
  ·refine AF ?_
   cases h
   simp only [go_sem]
  ·refine AF ?_
   cases h
   simp only [go_sem]
theorem JT (a0:Int) (a1:Int) (a2:Int) (u:Bool) (r:Bool) (h:E8 a0 a1 a2 u=some r):Al Tryz.prog Tryz.f243 [1,0,1] (.bool r) ⟨[(0,.int .i64 a0),(1,.int .i64 a1),(2,.int .i64 a2),(15,.bool u)],[],[]⟩:=by
 unfold E8 at h
 refine AN rfl rfl (Z ?_)
 refine AD h (fun h=>Z ?_) (fun h=>Z ?_)
 ·cases h
  simp only [go_sem]
 ·refine AF ?_
  refine AD h (fun h=>Z ?_) (fun h=>Z ?_)
  ·exact AW (JS a0 a1 a2 true _ h) [] []
  ·exact AW (JS a0 a1 a2 (decide (a1=12)) _ h) [] []
theorem QY (a0 a1 a2 r) (h:G8 a0 a1 a2=some r):AC Tryz.prog 243 [.int .i64 a0,.int .i64 a1,.int .i64 a2] (.bool r):=by
 unfold G8 at h
 refine acF Tryz.func243 mixed (h:=Z ?_)
 replace h:=AB h; obtain⟨u,w,h⟩:=h
 refine AH (BY _ _ _ _ w) (Z ?_)
 refine AD h (fun h=>Z ?_) (fun h=>Z ?_)
 ·exact AW (JT a0 a1 a2 true _ h) [] []
 ·replace h:=AB h; obtain⟨y,q,h⟩:=h
  refine AH (Ho _ _ _ q) (Z ?_)
  exact AW (JT a0 a1 a2 (!y) _ h) [] []
theorem Dr (u:Bool) (r:Bool) (h:Ca u=some r):Al Tryz.prog Tryz.f244 [1,0,1,0,1] (.bool r) ⟨[(4,.bool u)],[],[]⟩:=by
 unfold Ca at h
 refine AN rfl rfl (Z ?_)
 refine AD h (fun h=>Z ?_) (fun h=>Z ?_)
 ·cases h
  simp only [go_sem]
 ·refine AF ?_
  cases h
  simp only [go_sem]
theorem QZ (a0 r) (h:G9 a0=some r):AC Tryz.prog 244 [.int .i64 a0] (.bool r):=by
 unfold G9 at h
 refine acF Tryz.func244 mixed (h:=Z ?_)
 refine AD h (fun h=>Z ?_) (fun h=>Z ?_)
 ·exact AW (Dr (decide (a0=3)) _ h) [] []
 ·refine AD h (fun h=>Z ?_) (fun h=>Z ?_)
  ·exact AW (Dr (decide (a0=7)) _ h) [] []
  ·refine AD h (fun h=>Z ?_) (fun h=>Z ?_)
   ·exact AW (Dr (decide (a0=8)) _ h) [] []
   ·refine AD h (fun h=>Z ?_) (fun h=>Z ?_)
    ·exact AW (Dr (decide (a0=10)) _ h) [] []
    ·exact AW (Dr (decide (a0=11)) _ h) [] []
theorem LR (a1:Int) (a2:Int) (a3:Int) (u:Bool) (r:Int) (h:HA a1 a2 a3 u=some r):Al Tryz.prog Tryz.f224 [1,0,1,0,1,1,1,0,0,1] (.int .i64 r) ⟨[(1,.int .i64 a1),(2,.int .i64 a2),(3,.int .i64 a3),(20,.bool u)],[],[]⟩:=by
 unfold HA at h
 refine AN rfl rfl (Z ?_)
 refine AD h (fun h=>Z ?_) (fun h=>Z ?_)
 ·cases h
  simp only [go_sem]
 ·refine AF ?_
  replace h:=AB h; obtain⟨w,y,h⟩:=h
  refine AH (QY _ _ _ _ y) (Z ?_)
  refine AF ?_
  refine AD h (fun h=>Z ?_) (fun h=>Z ?_)
  ·cases h
   simp only [go_sem]
  ·refine AF ?_
   cases h
   simp only [go_sem]
theorem LS (u:Bool) (r:Int) (h:HB u=some r):Al Tryz.prog Tryz.f224 [1,0,1,0,1,1,1,1,1,0,1] (.int .i64 r) ⟨[(33,.bool u)],[],[]⟩:=by
 unfold HB at h
 refine AN rfl rfl (Z ?_)
 refine AD h (fun h=>Z ?_) (fun h=>Z ?_)
 ·cases h
  simp only [go_sem]
 ·refine AF ?_
  cases h
  simp only [go_sem]
theorem LT (a2:Int) (u:Bool) (r:Int) (h:HC a2 u=some r):Al Tryz.prog Tryz.f224 [1,0,1,0,1,1,1,1,1,1,1,0,1,0,1] (.int .i64 r) ⟨[(36,.int .i64 a2),(37,.bool u)],[],[]⟩:=by
 unfold HC at h
 refine AN rfl rfl (Z ?_)
 refine AD h (fun h=>Z ?_) (fun h=>Z ?_)
 ·cases h
  simp only [go_sem]
 ·refine AD h (fun h=>Z ?_) (fun h=>Z ?_)
  ·cases h
   simp only [go_sem]
  ·refine AF ?_
   cases h
   simp only [go_sem]
theorem IY (a0 a1 a2 a3 r) (h:Gj a0 a1 a2 a3=some r):AC Tryz.prog 224 [.int .i64 a0,.int .i64 a1,.int .i64 a2,.int .i64 a3] (.int .i64 r):=by
 unfold Gj at h
 refine acF Tryz.func224 mixed (h:=Z ?_)
 refine AD h (fun h=>Z ?_) (fun h=>Z ?_)
 ·cases h
  simp only [go_sem]
 ·refine AD h (fun h=>Z ?_) (fun h=>Z ?_)
  ·refine AD h (fun h=>Z ?_) (fun h=>Z ?_)
   ·exact AW (LR a1 a2 a3 (decide (a1=a3)) _ h) [] []
   ·exact AW (LR a1 a2 a3 false _ h) [] []
  ·refine AD h (fun h=>Z ?_) (fun h=>Z ?_)
   ·refine AD h (fun h=>Z ?_) (fun h=>Z ?_)
    ·exact AW (LS (decide (a1=a3)) _ h) [] []
    ·exact AW (LS false _ h) [] []
   ·refine AD h (fun h=>Z ?_) (fun h=>Z ?_)
    ·refine AD h (fun h=>Z ?_) (fun h=>Z ?_)
     ·exact AW (LT a2 (decide (a2=7)) _ h) [] []
     ·exact AW (LT a2 (decide (a2=8)) _ h) [] []
    ·refine AD h (fun h=>Z ?_) (fun h=>Z ?_)
     ·refine AD h (fun h=>Z ?_) (fun h=>Z ?_)
      ·cases h
       simp only [go_sem]
      ·refine AF ?_
       cases h
       simp only [go_sem]
     ·refine AD h (fun h=>Z ?_) (fun h=>Z ?_)
      ·replace h:=AB h; obtain⟨u,w,h⟩:=h
       refine AH (QZ _ _ w) (Z ?_)
       refine AF ?_
       refine AD h (fun h=>Z ?_) (fun h=>Z ?_)
       ·cases h
        simp only [go_sem]
       ·refine AF ?_
        cases h
        simp only [go_sem]
      ·refine AF ?_
       cases h
       simp only [go_sem]
theorem Pk (a0 a1 a2 a3 r) (h:GA a0 a1 a2 a3=some r):AC Tryz.prog 190 [.int .i64 a0,.int .i64 a1,.int .i64 a2,.int .i64 a3] (.int .i64 r):=by
 unfold GA at h
 refine acF Tryz.func190 mixed (h:=Z ?_)
 replace h:=AB h; obtain⟨u,w,h⟩:=h
 refine AH (Oy _ _ _ _ _ w) (Z ?_)
 refine AF ?_
 refine AD h (fun h=>Z ?_) (fun h=>Z ?_)
 ·cases h
  simp only [go_sem]
 ·refine AF ?_
  replace h:=AB h; obtain⟨y,q,h⟩:=h
  refine AH (IY _ _ _ _ _ q) (Z ?_)
  refine AF ?_
  refine AD h (fun h=>Z ?_) (fun h=>Z ?_)
  ·cases h
   simp only [go_sem]
  ·refine AF ?_
   replace h:=AB h; obtain⟨g,j,h⟩:=h
   refine AH (IY _ _ _ _ _ j) (Z ?_)
   refine AF ?_
   refine AD h (fun h=>Z ?_) (fun h=>Z ?_)
   ·cases h
    simp only [go_sem]
   ·refine AF ?_
    cases h
    simp only [go_sem]
theorem NJ (a0 a1 a2 r) (h:FW a0 a1 a2=some r):AC Tryz.prog 125 [.rop (Net.avs a0) 0,.int .i64 a1,.int .i64 a2] (.tup [.int .i64 r.1,.int .i64 r.2]):=by
 unfold FW at h
 refine acF Tryz.func125 mixed (h:=Z ?_)
 replace h:=AB h; obtain⟨u,w,h⟩:=h
 refine AM w (Agent.ds_len _) (Z ?_)
 replace h:=AB h; obtain⟨y,q,h⟩:=h
 refine AM q (Agent.ds_len _) (Z ?_)
 refine AY [] .fin (by kernel_rfl) (Z ?_)
 replace h:=AB h; obtain⟨g,j,h⟩:=h
 refine AH (Pk _ _ _ _ _ j) (Z ?_)
 refine AF ?_
 refine AD h (fun h=>Z ?_) (fun h=>Z ?_)
 ·cases h
  simp only [go_sem]
 ·refine AF ?_
  cases h
  simp only [go_sem]
theorem Jp (u:Int) (r:Int) (h:FX u=some r):Al Tryz.prog Tryz.f191 [1,1,1,1] (.int .i64 r) ⟨[(9,.int .i64 u)],[],[]⟩:=by
 unfold FX at h
 refine AN rfl rfl (Z ?_)
 refine AD h (fun h=>Z ?_) (fun h=>Z ?_)
 ·cases h
  simp only [go_sem]
 ·refine AF ?_
  cases h
  simp only [go_sem]
theorem SA (a0 a1 a2 a3 r) (h:Hz a0 a1 a2 a3=some r):AC Tryz.prog 191 [.int .i64 a0,.int .i64 a1,.int .i64 a2,.int .i64 a3] (.int .i64 r):=by
 unfold Hz at h
 refine acF Tryz.func191 mixed (h:=Z ?_)
 replace h:=AB h; obtain⟨u,w,h⟩:=h
 refine AH (Oy _ _ _ _ _ w) (Z ?_)
 refine AF ?_
 refine AD h (fun h=>Z ?_) (fun h=>Z ?_)
 ·cases h
  simp only [go_sem]
 ·refine AF ?_
  replace h:=AB h; obtain⟨y,q,h⟩:=h
  refine AH (IY _ _ _ _ _ q) (Z ?_)
  refine AF ?_
  refine AD h (fun h=>Z ?_) (fun h=>Z ?_)
  ·replace h:=AB h; obtain⟨g,j,h⟩:=h
   refine AH (IY _ _ _ _ _ j) (Z ?_)
   exact AW (Jp g _ h) [] []
  ·exact AW (Jp y _ h) [] []
theorem Hj (a0:Agent) (a1:Agent) (u:Bool) (r:Int) (h:FD a0 a1 u=some r):Al Tryz.prog Tryz.f126 [1,1,0,1] (.int .i64 r) ⟨[(0,.rop [.int .i64 a0.kind,.int .i64 a0.level,.int .i64 a0.value,.ro (List.map AO a0.data),.ro (List.map Port.ds a0.ports)] 0),(1,.rop [.int .i64 a1.kind,.int .i64 a1.level,.int .i64 a1.value,.ro (List.map AO a1.data),.ro (List.map Port.ds a1.ports)] 0),(52,.bool u)],[],[]⟩:=by
 unfold FD at h
 refine AN rfl rfl (Z ?_)
 refine AD h (fun h=>Z ?_) (fun h=>Z ?_)
 ·cases h
  simp only [go_sem]
 ·refine AF ?_
  refine AY [] .fin (by kernel_rfl) (Z ?_)
  replace h:=AB h; obtain⟨w,y,h⟩:=h
  refine AH (SA _ _ _ _ _ y) (Z ?_)
  refine AF ?_
  cases h
  simp only [go_sem]
theorem Hk (a0:Agent) (a1:Agent) (u:Bool) (r:Int) (h:FE a0 a1 u=some r):Al Tryz.prog Tryz.f126 [1,0,1] (.int .i64 r) ⟨[(0,.rop [.int .i64 a0.kind,.int .i64 a0.level,.int .i64 a0.value,.ro (List.map AO a0.data),.ro (List.map Port.ds a0.ports)] 0),(1,.rop [.int .i64 a1.kind,.int .i64 a1.level,.int .i64 a1.value,.ro (List.map AO a1.data),.ro (List.map Port.ds a1.ports)] 0),(28,.bool u)],[],[]⟩:=by
 unfold FE at h
 refine AN rfl rfl (Z ?_)
 refine AD h (fun h=>Z ?_) (fun h=>Z ?_)
 ·cases h
  simp only [go_sem]
 ·refine AF ?_
  refine AY [] .fin (by kernel_rfl) (Z ?_)
  refine AD h (fun h=>Z ?_) (fun h=>Z ?_)
  ·refine AD h (fun h=>Z ?_) (fun h=>Z ?_)
   ·exact AW (Hj a0 a1 (decide (((List.length a0.data:Nat):Int)≤a1.value)) _ h) [] []
   ·exact AW (Hj a0 a1 false _ h) [] []
  ·exact AW (Hj a0 a1 false _ h) [] []
theorem J5 (a0 a1 r) (h:GU a0 a1=some r):AC Tryz.prog 126 [.rop (Agent.avs a0) 0,.rop (Agent.avs a1) 0] (.int .i64 r):=by
 unfold GU at h
 refine acF Tryz.func126 mixed (h:=Z ?_)
 refine AY [] .fin (by kernel_rfl) (Z ?_)
 refine AD h (fun h=>Z ?_) (fun h=>Z ?_)
 ·refine AD h (fun h=>Z ?_) (fun h=>Z ?_)
  ·exact AW (Hk a0 a1 (decide (((List.length a1.data:Nat):Int)≤a0.value)) _ h) [] []
  ·exact AW (Hk a0 a1 false _ h) [] []
 ·exact AW (Hk a0 a1 false _ h) [] []
theorem QL (a0 a1 r) (h:HD a0 a1=some r):AC Tryz.prog 105 [.int .i64 a0,.int .i64 a1] (.int .i64 r):=by
 unfold HD at h
 refine acF Tryz.func105 mixed (h:=Z ?_)
 refine AD h (fun h=>Z ?_) (fun h=>Z ?_)
 ·cases h
  simp only [go_sem]
 ·refine AF ?_
  cases h
  simp only [go_sem]
theorem Nx (n:Nat):(∀a0 u w r,Cb n a0 u w=some r→Al Tryz.prog Tryz.f188 [1,1,0,1,0] (.int .i64 r) ⟨[(0,.rop [.ro (List.map Agent.ds a0.agents)] 0),(3,.int .i64 u),(4,.int .i64 w)],[],[]⟩):=by
 induction n with
 |zero=>exact((fun _ _ _ _ h=>by rw [Cb] at h; cases h))
 | succ n ih=>
  have ih0:=ih
  ·intro a0 u w r h
   rw [Cb] at h
   refine AN rfl rfl (Z ?_)
   refine AX (Z ?_)
   refine AD h (fun h=>Z ?_) (fun h=>Z ?_)
   ·refine AF ?_
    replace h:=AB h; obtain⟨y,q,h⟩:=h
    refine AM q (Agent.ds_len _) (Z ?_)
    replace h:=AB h; obtain⟨g,j,h⟩:=h
    refine AH (QL _ _ _ j) (Z ?_)
    refine AF ?_
    exact lpF (ih0 a0 g (IntKind.i64.wrap (w+1)) _ h) [] []
   ·refine AF ?_
    cases h
    simp only [go_sem]
theorem Qa (a0 r) (h:IR a0=some r):AC Tryz.prog 188 [.rop (Net.avs a0) 0] (.int .i64 r):=by
 unfold IR at h
 refine acF Tryz.func188 mixed (h:=Z ?_)
 exact loF (Nx fuel a0 0 0 _ h) [] []
theorem Eh (a1:Int) (u:Int) (w:Int) (y:Int) (r:Int × Int) (h:DW a1 u w y=some r):Al Tryz.prog Tryz.f189 [1,1,1,1,1] (.tup [.int .i64 r.1,.int .i64 r.2]) ⟨[(1,.int .i64 a1),(6,.int .i64 u),(7,.int .i64 w),(8,.int .i64 y)],[],[]⟩:=by
 unfold DW at h
 refine AN rfl rfl (Z ?_)
 replace h:=AB h; obtain⟨q,g,h⟩:=h
 refine AH (BY _ _ _ _ g) (Z ?_)
 refine AF ?_
 refine AD h (fun h=>Z ?_) (fun h=>Z ?_)
 ·cases h
  simp only [go_sem]
 ·refine AF ?_
  cases h
  simp only [go_sem]
theorem MV (a0:Int) (a1:Int) (u:Bool) (r:Int × Int) (h:H0 a0 a1 u=some r):Al Tryz.prog Tryz.f189 [1,1,1,1,0,1,0,1] (.tup [.int .i64 r.1,.int .i64 r.2]) ⟨[(1,.int .i64 a1),(6,.int .i64 0),(7,.int .i64 0),(9,.int .i64 a0),(10,.bool u)],[],[]⟩:=by
 unfold H0 at h
 refine AN rfl rfl (Z ?_)
 refine AD h (fun h=>Z ?_) (fun h=>Z ?_)
 ·exact AW (Eh a1 0 0 (-2) _ h) [] []
 ·refine AD h (fun h=>Z ?_) (fun h=>Z ?_)
  ·exact AW (Eh a1 0 3 a1 _ h) [] []
  ·refine AD h (fun h=>Z ?_) (fun h=>Z ?_)
   ·exact AW (Eh a1 0 3 (IntKind.i64.wrap (a1 - 2)) _ h) [] []
   ·refine AD h (fun h=>Z ?_) (fun h=>Z ?_)
    ·exact AW (Eh a1 0 0 (-1) _ h) [] []
    ·refine AD h (fun h=>Z ?_) (fun h=>Z ?_)
     ·exact AW (Eh a1 0 3 (IntKind.i64.wrap (a1 - 1)) _ h) [] []
     ·refine AD h (fun h=>Z ?_) (fun h=>Z ?_)
      ·exact AW (Eh a1 2 600 (IntKind.i64.wrap (a1 - 2)) _ h) [] []
      ·cases h
       simp only [go_sem]
theorem WJ (a0 a1 r) (h:MA a0 a1=some r):AC Tryz.prog 189 [.int .i64 a0,.int .i64 a1] (.tup [.int .i64 r.1,.int .i64 r.2]):=by
 unfold MA at h
 refine acF Tryz.func189 mixed (h:=Z ?_)
 refine AD h (fun h=>Z ?_) (fun h=>Z ?_)
 ·exact AW (MV a0 a1 (decide (a0=1)) _ h) [] []
 ·exact AW (MV a0 a1 (decide (a0=2)) _ h) [] []
theorem FN (u:Int) (w:Int) (r:Int × Int) (h:Cw u w=some r):Al Tryz.prog Tryz.f123 [1,1,1,1,1,1,1] (.tup [.int .i64 r.1,.int .i64 r.2]) ⟨[(12,.int .i64 u),(13,.int .i64 w)],[],[]⟩:=by
 unfold Cw at h
 refine AN rfl rfl (Z ?_)
 replace h:=AB h; obtain⟨y,q,h⟩:=h
 refine AH (WJ _ _ _ q) (Z ?_)
 refine AF ?_
 cases h
 simp only [go_sem]
theorem Jq (a0:List Net) (u:Agent) (w:Agent) (y:Int) (q:Bool) (r:Int × Int) (h:FY a0 u w y q=some r):Al Tryz.prog Tryz.f123 [1,1,1,1,1,1,0,1,0,1,1,1] (.tup [.int .i64 r.1,.int .i64 r.2]) ⟨[(0,.ro (List.map Net.ds a0)),(10,.rop [.int .i64 u.kind,.int .i64 u.level,.int .i64 u.value,.ro (List.map AO u.data),.ro (List.map Port.ds u.ports)] 0),(11,.rop [.int .i64 w.kind,.int .i64 w.level,.int .i64 w.value,.ro (List.map AO w.data),.ro (List.map Port.ds w.ports)] 0),(12,.int .i64 y),(13,.int .i64 0),(38,.int .i64 y),(41,.bool q)],[],[]⟩:=by
 unfold FY at h
 refine AN rfl rfl (Z ?_)
 refine AD h (fun h=>Z ?_) (fun h=>Z ?_)
 ·exact AW (FN y (IntKind.i64.wrap (((List.length w.ports:Nat):Int) - 1)) _ h) [] []
 ·refine AD h (fun h=>Z ?_) (fun h=>Z ?_)
  ·replace h:=AB h; obtain⟨g,j,h⟩:=h
   refine AH (JU _ _ j) (Z ?_)
   exact AW (FN y g _ h) [] []
  ·refine AD h (fun h=>Z ?_) (fun h=>Z ?_)
   ·refine AD h (fun h=>Z ?_) (fun h=>Z ?_)
    ·cases h
     simp only [go_sem]
    ·refine AF ?_
     replace h:=AB h; obtain⟨k,b,h⟩:=h
     refine AM b (Net.ds_len _) (Z ?_)
     refine AY [] .fin (by kernel_rfl) (Z ?_)
     replace h:=AB h; obtain⟨d,c,h⟩:=h
     refine AM c (Net.ds_len _) (Z ?_)
     replace h:=AB h; obtain⟨e,i,h⟩:=h
     refine AH (Qa _ _ i) (Z ?_)
     refine AF ?_
     refine AD h (fun h=>Z ?_) (fun h=>Z ?_)
     ·cases h
      simp only [go_sem]
     ·exact AW (FN y ((List.length k.agents:Nat):Int) _ h) [] []
   ·exact AW (FN y 0 _ h) [] []
theorem SB (a0 a1 a2 a3 r) (h:H1 a0 a1 a2 a3=some r):AC Tryz.prog 123 [.ro (List.map Net.ds a0),.rop (Net.avs a1) 0,.int .i64 a2,.int .i64 a3] (.tup [.int .i64 r.1,.int .i64 r.2]):=by
 unfold H1 at h
 refine acF Tryz.func123 mixed (h:=Z ?_)
 replace h:=AB h; obtain⟨u,w,h⟩:=h
 refine AH (NJ _ _ _ _ w) (Z ?_)
 refine AF ?_
 replace h:=AB h; obtain⟨y,q,h⟩:=h
 refine AM q (Agent.ds_len _) (Z ?_)
 replace h:=AB h; obtain⟨g,j,h⟩:=h
 refine AM j (Agent.ds_len _) (Z ?_)
 replace h:=AB h; obtain⟨k,b,h⟩:=h
 refine AH (J5 _ _ _ b) (Z ?_)
 refine AF ?_
 refine AD h (fun h=>Z ?_) (fun h=>Z ?_)
 ·cases h
  simp only [go_sem]
 ·refine AD h (fun h=>Z ?_) (fun h=>Z ?_)
  ·exact AW (Jq a0 y g k (decide (k=3)) _ h) [] []
  ·exact AW (Jq a0 y g k (decide (k=4)) _ h) [] []
theorem Qb (n:Nat):(∀a0 u w r,DM n a0 u w=some r→Al Tryz.prog Tryz.f124 [1,1,0,1,0] (.int .i64 r) ⟨[(0,.rop [.ro (List.map Agent.ds a0.agents)] 0),(3,.int .i64 u),(4,.int .i64 w)],[],[]⟩):=by
 induction n with
 |zero=>exact((fun _ _ _ _ h=>by rw [DM] at h; cases h))
 | succ n ih=>
  have ih0:=ih
  ·intro a0 u w r h
   rw [DM] at h
   refine AN rfl rfl (Z ?_)
   refine AX (Z ?_)
   refine AD h (fun h=>Z ?_) (fun h=>Z ?_)
   ·refine AF ?_
    replace h:=AB h; obtain⟨y,q,h⟩:=h
    refine AM q (Agent.ds_len _) (Z ?_)
    refine AD h (fun h=>Z ?_) (fun h=>Z ?_)
    ·refine AF ?_
     exact lpF (ih0 a0 (IntKind.i64.wrap (u+1)) (IntKind.i64.wrap (w+1)) _ h) [] []
    ·refine AF ?_
     exact lpF (ih0 a0 u (IntKind.i64.wrap (w+1)) _ h) [] []
   ·refine AF ?_
    cases h
    simp only [go_sem]
theorem Oz (a0 r) (h:Ik a0=some r):AC Tryz.prog 124 [.rop (Net.avs a0) 0] (.int .i64 r):=by
 unfold Ik at h
 refine acF Tryz.func124 mixed (h:=Z ?_)
 exact loF (Qb fuel a0 0 0 _ h) [] []
theorem AS (a0 a1 r) (h:Ad a0 a1=some r):AC Tryz.prog 128 [.int .i64 a0,.int .i64 a1] (.agg (Port.rv r)):=by
 unfold Ad at h
 refine acF Tryz.func128 mixed (h:=Z ?_)
 refine AF ?_
 cases h
 simp only [go_sem]
theorem SC (n:Nat):(∀a0 a1 a2 a3 u w y r,El n a0 a1 a2 a3 u w y=some r→DA Tryz.prog Tryz.f130 [1,1,0,1,0] (.int .i64 r.1) [(1501,⟨List.map Agent.ds r.2.agents,some 5,0,false⟩)] [(1,[.own 1501])] ⟨[(0,.box 1 0),(13,.box 1000001500 0),(14,.int .i64 y)],[(1000001000,some ⟨List.map Agent.ds a0.agents,some 5,0,false⟩),(1000001001,some ⟨List.map AO u,some 1,0,false⟩),(1000001002,some ⟨List.map Port.ds w,some 2,0,false⟩)],[(1,some [.own 1000001000]),(1000001500,some [.int .i64 a1,.int .i64 a2,.int .i64 a3,.own 1000001001,.own 1000001002])]⟩):=by
 induction n with
 |zero=>exact((fun _ _ _ _ _ _ _ _ h=>by rw [El] at h; cases h))
 | succ n ih=>
  have ih0:=ih
  ·intro a0 a1 a2 a3 u w y r h
   rw [El] at h
   refine Av rfl rfl (Z ?_)
   refine AX (Z ?_)
   refine AD h (fun h=>Z ?_) (fun h=>Z ?_)
   ·refine AF ?_
    replace h:=AB h; obtain⟨q,g,h⟩:=h
    have hq_:=A5 g
    obtain⟨hv6004a,hv6004b⟩:=hq_
    refine Di false (Z ?_)
    refine BC (by refine⟨?_,?_⟩ <;> (try simp only [List.length_map,List.length_append,List.length_cons,List.length_nil] at*) <;> (try unfold maxLen) <;> omega) (Z ?_)
    refine An (List.map Port.ds q) (by rw [← hv6004b]; simp only [List.map_append,List.map_cons,List.map_nil,List.nil_append,List.append_nil,go_sem,Port.ds_eq]) (Z ?_)
    refine AF ?_
    exact lpG (ih0 a0 a1 a2 a3 u q (IntKind.i64.wrap (y - 1)) _ h) [(1000001000,1000001000),(1000001001,1000001001),(1000001002,96064)] [(1,1),(1000001500,1000001500)]
   ·refine AF ?_
    refine AY [false,false,false,false,false,false,false,true,true,true,true] (Tr.sq [7,8,9,10] .fin) (by kernel_rfl) (Z ?_)
    replace h:=AB h; obtain⟨j,k,h⟩:=h
    have hq_:=A5 k
    obtain⟨hv7007a,hv7007b⟩:=hq_
    refine Di false (Z ?_)
    refine BC (by refine⟨?_,?_⟩ <;> (try simp only [List.length_map,List.length_append,List.length_cons,List.length_nil] at*) <;> (try unfold maxLen) <;> omega) (Z ?_)
    refine An (List.map Agent.ds j) (by rw [← hv7007b]; simp only [List.map_append,List.map_cons,List.map_nil,List.nil_append,List.append_nil,go_sem,Agent.ds_eq]) (Z ?_)
    refine AF ?_
    cases h
    refine A7 (.done _) [(1501,112112)] [(1,1)] ?_
    simp only [go_sem]
theorem EE (a0 a1 a2 a3 a4 a5 r) (h:Cj a0 a1 a2 a3 a4 a5=some r):AG Tryz.prog 130 [.box 1 0,.int .i64 a1,.int .i64 a2,.int .i64 a3,.ro (List.map AO a4),.int .i64 a5] [(1001,⟨List.map Agent.ds a0.agents,some 5,0,false⟩)] [(1,[.own 1001])] (.int .i64 r.1) [(1501,⟨List.map Agent.ds r.2.agents,some 5,0,false⟩)] [(1,[.own 1501])] :=by
 unfold Cj at h
 refine agF Tryz.func130 mixed (h:=Z ?_)
 replace h:=AB h; obtain⟨u,w,h⟩:=h
 refine AH (MW _ _ w) (Z ?_)
 refine AF ?_
 refine Ch (Gy rfl rfl (SC fuel a0 a1 a2 a3 u [] a5 _ h):) (.one ⟨_,.cell 2006 4 2000000000 (some 2) false _ (by simp only [go_sem]; rfl) (by rfl) (by simp only [go_sem]) (.done _),[(1000001000,1001),(1000001001,32064),(1000001002,2000000000)],[(1,1),(1000001500,2006)],?_⟩)
 simp only [go_sem]
 all_goals try rfl
theorem MX (n:Nat):(∀a2 u w y q r,Bs n a2 u w y q=some r→DA Tryz.prog Tryz.f129 [1,1,1,1,1,1,1,1,1,0] (.tup []) [(1501,⟨List.map Agent.ds r.agents,some 5,0,false⟩)] [(1,[.own 1501])] ⟨[(0,.box 1 0),(2,.int .i64 a2),(8,.int .i64 ((List.length u.ports:Nat):Int)),(10,.int .i64 w.1),(13,.int .i64 q)],[(1000002000,some ⟨List.map Agent.ds y,some 5,0,false⟩)],[(1,some [.own 1000002000])]⟩):=by
 induction n with
 |zero=>exact((fun _ _ _ _ _ _ h=>by rw [Bs] at h; cases h))
 | succ n ih=>
  have ih0:=ih
  ·intro a2 u w y q r h
   rw [Bs] at h
   refine Av rfl rfl (Z ?_)
   refine AX (Z ?_)
   refine AD h (fun h=>Z ?_) (fun h=>Z ?_)
   ·refine AF ?_
    replace h:=AB h; obtain⟨g,j,h⟩:=h
    refine AH (AS _ _ _ j) (Z ?_)
    replace h:=AB h; obtain⟨k,b,h⟩:=h
    refine AH (AS _ _ _ b) (Z ?_)
    replace h:=AB h; obtain⟨d,c,h⟩:=h
    refine caG ⟨[],[(1001,1000002000)],[(1,1,0)],[(1501,272128)],[],true⟩ (Cq _ _ _ _ c) (Z ?_)
    refine AF ?_
    exact lpG (ih0 a2 u w d.agents (IntKind.i64.wrap (q+1)) _ h) [(1000002000,272128)] [(1,1)]
   ·cases h
    refine A7 (.done _) [(1501,1000002000)] [(1,1)] ?_
    simp only [go_sem]
theorem MY (n:Nat):(∀a1 a2 u w y q g j r,BZ n a1 a2 u w y q g j=some r→DA Tryz.prog Tryz.f129 [1,1,1,1,1,0,1,0] (.tup []) [(1501,⟨List.map Agent.ds r.agents,some 5,0,false⟩)] [(1,[.own 1501])] ⟨[(0,.box 1 0),(1,.int .i64 a1),(2,.int .i64 a2),(6,.int .i64 u.level),(8,.int .i64 ((List.length w.ports:Nat):Int)),(9,.int .i64 y.1),(10,.int .i64 q.1),(11,.int .i64 j)],[(1000001000,some ⟨List.map Agent.ds g,some 5,0,false⟩)],[(1,some [.own 1000001000])]⟩):=by
 induction n with
 |zero=>exact((fun _ _ _ _ _ _ _ _ _ h=>by rw [BZ] at h; cases h))
 | succ n ih=>
  have ih0:=ih
  ·intro a1 a2 u w y q g j r h
   rw [BZ] at h
   refine Av rfl rfl (Z ?_)
   refine AX (Z ?_)
   refine AD h (fun h=>Z ?_) (fun h=>Z ?_)
   ·refine AF ?_
    replace h:=AB h; obtain⟨k,b,h⟩:=h
    refine caG ⟨[],[(1001,1000001000)],[(1,1,0)],[(1501,144032)],[],true⟩ (EE _ _ _ _ _ _ _ b) (Z ?_)
    refine AF ?_
    replace h:=AB h; obtain⟨d,c,h⟩:=h
    refine AH (AS _ _ _ c) (Z ?_)
    replace h:=AB h; obtain⟨e,i,h⟩:=h
    refine AH (AS _ _ _ i) (Z ?_)
    replace h:=AB h; obtain⟨l,t,h⟩:=h
    refine caG ⟨[],[(1001,144032)],[(1,1,0)],[(1501,160096)],[],true⟩ (Fv _ _ _ _ t) (Z ?_)
    refine AF ?_
    replace h:=AB h; obtain⟨s,o,h⟩:=h
    refine AH (AS _ _ _ o) (Z ?_)
    replace h:=AB h; obtain⟨z,u1,h⟩:=h
    refine AH (AS _ _ _ u1) (Z ?_)
    replace h:=AB h; obtain⟨u2,u3,h⟩:=h
    refine caG ⟨[],[(1001,160096)],[(1,1,0)],[(1501,176096)],[],true⟩ (Fv _ _ _ _ u3) (Z ?_)
    refine AF ?_
    exact lpG (ih0 a1 a2 u w y q u2.agents (IntKind.i64.wrap (j+1)) _ h) [(1000001000,176096)] [(1,1)]
   ·refine AF ?_
    replace h:=AB h; obtain⟨u4,u5,h⟩:=h
    refine AH (AS _ _ _ u5) (Z ?_)
    replace h:=AB h; obtain⟨u6,u7,h⟩:=h
    refine AH (AS _ _ _ u7) (Z ?_)
    replace h:=AB h; obtain⟨u8,u9,h⟩:=h
    refine caG ⟨[],[(1001,1000001000)],[(1,1,0)],[(1501,192080)],[],true⟩ (Cq _ _ _ _ u9) (Z ?_)
    refine AF ?_
    replace h:=AB h; obtain⟨u10,u11,h⟩:=h
    refine AH (AS _ _ _ u11) (Z ?_)
    replace h:=AB h; obtain⟨u12,u13,h⟩:=h
    refine AH (AS _ _ _ u13) (Z ?_)
    replace h:=AB h; obtain⟨u14,u15,h⟩:=h
    refine caG ⟨[],[(1001,192080)],[(1,1,0)],[(1501,208080)],[],true⟩ (Cq _ _ _ _ u15) (Z ?_)
    refine AF ?_
    exact loG (MX fuel a2 w q u14.agents 1 _ h) [(1000002000,208080)] [(1,1)]
theorem O0 (a0 a1 a2 r) (h:FZ a0 a1 a2=some r):AG Tryz.prog 129 [.box 1 0,.int .i64 a1,.int .i64 a2] [(1001,⟨List.map Agent.ds a0.agents,some 5,0,false⟩)] [(1,[.own 1001])] (.tup []) [(1501,⟨List.map Agent.ds r.agents,some 5,0,false⟩)] [(1,[.own 1501])] :=by
 unfold FZ at h
 refine agF Tryz.func129 mixed (h:=Z ?_)
 replace h:=AB h; obtain⟨u,w,h⟩:=h
 refine AM w (Agent.ds_len _) (Z ?_)
 refine AZ (AP w) (Z ?_)
 replace h:=AB h; obtain⟨y,q,h⟩:=h
 refine AM q (Agent.ds_len _) (Z ?_)
 replace h:=AB h; obtain⟨g,j,h⟩:=h
 refine Jy (by simp only [AP q,Agent.ds_eq,go_sem,Nat.reduceEqDiff,reduceIte] <;> rfl) (Df _ _ j) (Z ?_)
 refine AF ?_
 replace h:=AB h; obtain⟨k,b,h⟩:=h
 refine caG ⟨[],[(1001,1001)],[(1,1,0)],[(1501,64160)],[],false⟩ (EE _ _ _ _ _ _ _ b) (Z ?_)
 refine AF ?_
 replace h:=AB h; obtain⟨d,c,h⟩:=h
 refine caG ⟨[],[(1001,64160)],[(1,1,0)],[(1501,80160)],[],false⟩ (EE _ _ _ _ _ _ _ c) (Z ?_)
 refine AF ?_
 exact loG (MY fuel a1 a2 u g k d d.2.agents 1 _ h) [(1000001000,80160)] [(1,1)]
theorem Gr (a0 r) (h:GB a0=some r):AC Tryz.prog 225 [.int .i64 a0] (.int .i64 r):=by
 unfold GB at h
 refine acF Tryz.func225 mixed (h:=Z ?_)
 cases h
 simp only [go_sem]
theorem O1 (a0 r) (h:KM a0=some r):AC Tryz.prog 226 [.bool a0] (.int .i64 r):=by
 unfold KM at h
 refine acF Tryz.func226 mixed (h:=Z ?_)
 refine AD h (fun h=>Z ?_) (fun h=>Z ?_)
 ·cases h
  simp only [go_sem]
 ·refine AF ?_
  cases h
  simp only [go_sem]
theorem UU (a0 a1 a2 r) (h:KN a0 a1 a2=some r):AC Tryz.prog 194 [.int .i64 a0,.int .i64 a1,.int .i64 a2] (.int .i64 r):=by
 unfold KN at h
 refine acF Tryz.func194 mixed (h:=Z ?_)
 replace h:=AB h; obtain⟨u,w,h⟩:=h
 refine AH (Gr _ _ w) (Z ?_)
 refine AF ?_
 replace h:=AB h; obtain⟨y,q,h⟩:=h
 refine AH (Gr _ _ q) (Z ?_)
 refine AF ?_
 refine AD h (fun h=>Z ?_) (fun h=>Z ?_)
 ·replace h:=AB h; obtain⟨g,j,h⟩:=h
  refine AH (Gr _ _ j) (Z ?_)
  refine AF ?_
  cases h
  simp only [go_sem]
 ·refine AD h (fun h=>Z ?_) (fun h=>Z ?_)
  ·replace h:=AB h; obtain⟨k,b,h⟩:=h
   refine AH (Gr _ _ b) (Z ?_)
   refine AF ?_
   cases h
   simp only [go_sem]
  ·refine AD h (fun h=>Z ?_) (fun h=>Z ?_)
   ·replace h:=AB h; obtain⟨d,c,h⟩:=h
    refine AH (Gr _ _ c) (Z ?_)
    refine AF ?_
    cases h
    simp only [go_sem]
   ·refine AD h (fun h=>Z ?_) (fun h=>Z ?_)
    ·refine AD h (fun h=>Z ?_) (fun h=>Z ?_)
     ·cases h
      simp only [go_sem]
     ·refine AF ?_
      replace h:=AB h; obtain⟨e,i,h⟩:=h
      refine BC (X3 i) (Z ?_)
      replace h:=AB h; obtain⟨l,t,h⟩:=h
      refine AH (Gr _ _ t) (Z ?_)
      refine AF ?_
      cases h
      simp only [go_sem]
    ·refine AD h (fun h=>Z ?_) (fun h=>Z ?_)
     ·replace h:=AB h; obtain⟨s,o,h⟩:=h
      refine AH (O1 _ _ o) (Z ?_)
      refine AF ?_
      cases h
      simp only [go_sem]
     ·refine AD h (fun h=>Z ?_) (fun h=>Z ?_)
      ·replace h:=AB h; obtain⟨z,u1,h⟩:=h
       refine AH (O1 _ _ u1) (Z ?_)
       refine AF ?_
       cases h
       simp only [go_sem]
      ·refine AF ?_
       cases h
       simp only [go_sem]
theorem Qc (a0 a1 a2 r) (h:Fo a0 a1 a2=some r):AG Tryz.prog 132 [.box 1 0,.int .i64 a1,.int .i64 a2] [(1001,⟨List.map Agent.ds a0.agents,some 5,0,false⟩)] [(1,[.own 1001])] (.tup []) [(1501,⟨List.map Agent.ds r.agents,some 5,0,false⟩)] [(1,[.own 1501])] :=by
 unfold Fo at h
 refine agF Tryz.func132 mixed (h:=Z ?_)
 replace h:=AB h; obtain⟨u,w,h⟩:=h
 refine AM w (Agent.ds_len _) (Z ?_)
 replace h:=AB h; obtain⟨y,q,h⟩:=h
 refine Jy (by simp only [AP w,Agent.ds_eq,go_sem,Nat.reduceEqDiff,reduceIte] <;> rfl) (Df _ _ q) (Z ?_)
 refine AF ?_
 replace h:=AB h; obtain⟨g,j,h⟩:=h
 refine AM j (Agent.ds_len _) (Z ?_)
 refine AZ (AP j) (Z ?_)
 refine AD h (fun h=>Z ?_) (fun h=>Z ?_)
 ·refine AY [false,false,false,false,false,false,false,false,false,true,true] (Tr.sq [9,10] .fin) (by kernel_rfl) (Z ?_)
  replace h:=AB h; obtain⟨k,b,h⟩:=h
  refine AM b rfl (Z ?_)
  refine AZ (AP b) (Z ?_)
  replace h:=AB h; obtain⟨d,c,h⟩:=h
  refine AH (UU _ _ _ _ c) (Z ?_)
  replace h:=AB h; obtain⟨e,i,h⟩:=h
  refine caG ⟨[],[(1001,1001)],[(1,1,0)],[(1501,64144)],[],true⟩ (EE _ _ _ _ _ _ _ i) (Z ?_)
  refine AF ?_
  replace h:=AB h; obtain⟨l,t,h⟩:=h
  refine AH (AS _ _ _ t) (Z ?_)
  replace h:=AB h; obtain⟨s,o,h⟩:=h
  refine AH (AS _ _ _ o) (Z ?_)
  replace h:=AB h; obtain⟨z,u1,h⟩:=h
  refine caG ⟨[],[(1001,64144)],[(1,1,0)],[(1501,80080)],[],true⟩ (Cq _ _ _ _ u1) (Z ?_)
  refine AF ?_
  cases h
  refine A7 (.done _) [(1501,80080)] [(1,1)] ?_
  simp only [go_sem]
 ·refine AF ?_
  replace h:=AB h; obtain⟨u2,u3,h⟩:=h
  refine caG ⟨[],[(1001,1001)],[(1,1,0)],[(1501,96112)],[],false⟩ (EE _ _ _ _ _ _ _ u3) (Z ?_)
  refine AF ?_
  replace h:=AB h; obtain⟨u4,u5,h⟩:=h
  refine AH (AS _ _ _ u5) (Z ?_)
  replace h:=AB h; obtain⟨u6,u7,h⟩:=h
  refine AH (AS _ _ _ u7) (Z ?_)
  replace h:=AB h; obtain⟨u8,u9,h⟩:=h
  refine caG ⟨[],[(1001,96112)],[(1,1,0)],[(1501,112080)],[],true⟩ (Cq _ _ _ _ u9) (Z ?_)
  refine AF ?_
  replace h:=AB h; obtain⟨u10,u11,h⟩:=h
  refine AH (AS _ _ _ u11) (Z ?_)
  replace h:=AB h; obtain⟨u12,u13,h⟩:=h
  refine AH (AS _ _ _ u13) (Z ?_)
  replace h:=AB h; obtain⟨u14,u15,h⟩:=h
  refine caG ⟨[],[(1001,112080)],[(1,1,0)],[(1501,128080)],[],true⟩ (Cq _ _ _ _ u15) (Z ?_)
  cases h
  refine A7 (.done _) [(1501,128080)] [(1,1)] ?_
  simp only [go_sem]
theorem Jr (a0:Net) (a2:Int) (u:Agent) (w:Int) (r:Net) (h:Fa a0 a2 u w=some r):DA Tryz.prog Tryz.f133 [1,0,1,0,1,1] (.tup []) [(1501,⟨List.map Agent.ds r.agents,some 5,0,false⟩)] [(1,[.own 1501])] ⟨[(0,.box 1 0),(2,.int .i64 a2),(6,.box 1000000500 0),(7,.int .i64 w)],[(1000000000,some ⟨List.map Agent.ds a0.agents,some 5,0,false⟩),(1000000001,some ⟨List.map AO u.data,some 1,0,false⟩),(1000000002,some ⟨List.map Port.ds u.ports,some 2,0,false⟩)],[(1,some [.own 1000000000]),(1000000500,some [.int .i64 u.kind,.int .i64 u.level,.int .i64 u.value,.own 1000000001,.own 1000000002])]⟩:=by
 unfold Fa at h
 refine Av rfl rfl (Z ?_)
 replace h:=AB h; obtain⟨y,q,h⟩:=h
 refine caG ⟨[],[(1001,1000000000)],[(1,1,0)],[(1501,96064)],[],true⟩ (EE _ _ _ _ _ _ _ q) (Z ?_)
 refine AF ?_
 replace h:=AB h; obtain⟨g,j,h⟩:=h
 refine AH (AS _ _ _ j) (Z ?_)
 replace h:=AB h; obtain⟨k,b,h⟩:=h
 refine AH (AS _ _ _ b) (Z ?_)
 replace h:=AB h; obtain⟨d,c,h⟩:=h
 refine caG ⟨[],[(1001,96064)],[(1,1,0)],[(1501,112080)],[],true⟩ (Cq _ _ _ _ c) (Z ?_)
 refine AF ?_
 cases h
 refine A7 (.done _) [(1501,112080)] [(1,1)] ?_
 simp only [go_sem]
theorem O2 (n:Nat):(∀a1 a2 u w y q g j r,Cz n a1 a2 u w y q g j=some r→DA Tryz.prog Tryz.f133 [1,1,1,1,1,0,1,0] (.tup []) [(1501,⟨List.map Agent.ds r.agents,some 5,0,false⟩)] [(1,[.own 1501])] ⟨[(0,.box 1 0),(1,.int .i64 a1),(2,.int .i64 a2),(6,.box 1000002500 0),(9,.int .i64 w),(11,.box 1000002501 0),(12,.int .i64 j)],[(1000002000,some ⟨List.map Agent.ds y,some 5,0,false⟩),(1000002001,some ⟨List.map AO u.data,some 1,0,false⟩),(1000002002,some ⟨List.map Port.ds u.ports,some 2,0,false⟩)],[(1,some [.own 1000002000]),(1000002500,some [.int .i64 u.kind,.int .i64 u.level,.int .i64 u.value,.own 1000002001,.own 1000002002]),(1000002501,some [.int .i64 q,.int .i64 g])]⟩):=by
 induction n with
 |zero=>exact((fun _ _ _ _ _ _ _ _ _ h=>by rw [Cz] at h; cases h))
 | succ n ih=>
  have ih0:=ih
  ·intro a1 a2 u w y q g j r h
   rw [Cz] at h
   refine Av rfl rfl (Z ?_)
   refine AX (Z ?_)
   refine AD h (fun h=>Z ?_) (fun h=>Z ?_)
   ·refine AF ?_
    replace h:=AB h; obtain⟨k,b,h⟩:=h
    refine caG ⟨[],[(1001,1000002000)],[(1,1,0)],[(1501,224048)],[],true⟩ (EE _ _ _ _ _ _ _ b) (Z ?_)
    refine AF ?_
    refine AY [false,false,false,false,true] (Tr.sq [4] .fin) (by kernel_rfl) (Z ?_)
    replace h:=AB h; obtain⟨d,c,h⟩:=h
    refine AH (AS _ _ _ c) (Z ?_)
    replace h:=AB h; obtain⟨e,i,h⟩:=h
    refine caG ⟨[],[(1001,224048)],[(1,1,0)],[(1501,240064)],[],true⟩ (Fv _ _ _ _ i) (Z ?_)
    refine AF ?_
    replace h:=AB h; obtain⟨l,t,h⟩:=h
    refine AH (AS _ _ _ t) (Z ?_)
    replace h:=AB h; obtain⟨s,o,h⟩:=h
    refine AH (AS _ _ _ o) (Z ?_)
    replace h:=AB h; obtain⟨z,u1,h⟩:=h
    refine caG ⟨[],[(1001,240064)],[(1,1,0)],[(1501,256096)],[],true⟩ (Cq _ _ _ _ u1) (Z ?_)
    refine AF ?_
    replace h:=AB h; obtain⟨u2,u3,h⟩:=h
    refine AH (AS _ _ _ u3) (Z ?_)
    refine AF ?_
    exact lpG (ih0 a1 a2 u w z.agents u2.agent u2.slot (IntKind.i64.wrap (j+1)) _ h) [(1000002000,256096),(1000002001,1000002001),(1000002002,1000002002)] [(1,1),(1000002500,1000002500),(1000002501,1000002501)]
   ·refine AF ?_
    refine AY [false,false,false,false,true] (Tr.sq [4] .fin) (by kernel_rfl) (Z ?_)
    replace h:=AB h; obtain⟨u4,u5,h⟩:=h
    refine AH (AS _ _ _ u5) (Z ?_)
    replace h:=AB h; obtain⟨u6,u7,h⟩:=h
    refine caG ⟨[],[(1001,1000002000)],[(1,1,0)],[(1501,288064)],[],true⟩ (Cq _ _ _ _ u7) (Z ?_)
    cases h
    refine A7 (.done _) [(1501,288064)] [(1,1)] ?_
    simp only [go_sem]
theorem SD (a0 a1 a2 r) (h:Em a0 a1 a2=some r):AG Tryz.prog 133 [.box 1 0,.int .i64 a1,.int .i64 a2] [(1001,⟨List.map Agent.ds a0.agents,some 5,0,false⟩)] [(1,[.own 1001])] (.tup []) [(1501,⟨List.map Agent.ds r.agents,some 5,0,false⟩)] [(1,[.own 1501])] :=by
 unfold Em at h
 refine agF Tryz.func133 mixed (h:=Z ?_)
 replace h:=AB h; obtain⟨u,w,h⟩:=h
 refine AM w (Agent.ds_len _) (Z ?_)
 replace h:=AB h; obtain⟨y,q,h⟩:=h
 refine Jy (by simp only [AP w,Agent.ds_eq,go_sem,Nat.reduceEqDiff,reduceIte] <;> rfl) (Df _ _ q) (Z ?_)
 refine AF ?_
 refine AD h (fun h=>Z ?_) (fun h=>Z ?_)
 ·replace h:=AB h; obtain⟨g,j,h⟩:=h
  refine AM j rfl (Z ?_)
  refine AZ (AP j) (Z ?_)
  replace h:=AB h; obtain⟨k,b,h⟩:=h
  refine AM b (Agent.ds_len _) (Z ?_)
  refine AZ (AP b) (Z ?_)
  refine AD h (fun h=>Z ?_) (fun h=>Z ?_)
  ·replace h:=AB h; obtain⟨d,c,h⟩:=h
   refine AM c rfl (Z ?_)
   refine AZ (AP c) (Z ?_)
   exact BI (Jr a0 a2 y d _ h) [(1000000000,1001),(1000000001,16096),(1000000002,16097)] [(1,1),(1000000500,1007)]
  ·exact BI (Jr a0 a2 y g _ h) [(1000000000,1001),(1000000001,16096),(1000000002,16097)] [(1,1),(1000000500,1007)]
 ·refine AF ?_
  replace h:=AB h; obtain⟨e,i,h⟩:=h
  refine AM i (Agent.ds_len _) (Z ?_)
  replace h:=AB h; obtain⟨l,t,h⟩:=h
  refine Jy (by simp only [AP i,Agent.ds_eq,go_sem,Nat.reduceEqDiff,reduceIte] <;> rfl) (JU _ _ t) (Z ?_)
  refine AF ?_
  refine AY [false,false,false,false,false,false,false,false,false,false,false,false,false,false,false,true,true] (Tr.sq [15,16] .fin) (by kernel_rfl) (Z ?_)
  replace h:=AB h; obtain⟨s,o,h⟩:=h
  refine AM o (Agent.ds_len _) (Z ?_)
  refine AZ (AP o) (Z ?_)
  replace h:=AB h; obtain⟨z,u1,h⟩:=h
  refine AM u1 rfl (Z ?_)
  refine AZ (AP u1) (Z ?_)
  replace h:=AB h; obtain⟨u2,u3,h⟩:=h
  refine caG ⟨[],[(1001,1001)],[(1,1,0)],[(1501,144240)],[],true⟩ (EE _ _ _ _ _ _ _ u3) (Z ?_)
  refine AF ?_
  replace h:=AB h; obtain⟨u4,u5,h⟩:=h
  refine AH (AS _ _ _ u5) (Z ?_)
  refine AF ?_
  exact loG (O2 fuel a1 a2 y l u2.2.agents u4.agent u4.slot 1 _ h) [(1000002000,144240),(1000002001,16096),(1000002002,16097)] [(1,1),(1000002500,1007),(1000002501,10002)]
theorem M4 (n:Nat):(∀a0 a1 a3 u w y r,BM n a0 a1 a3 u w y=some r→DA Tryz.prog Tryz.f134 [1,1,0,1,0] (.tup []) [(1501,⟨List.map Agent.ds r.agents,some 5,0,false⟩)] [(1,[.own 1501])] ⟨[(0,.rop [.ro (List.map Agent.ds a0.agents)] 0),(1,.box 1 0),(3,.int .i64 a3),(8,.int .i64 u.level),(9,.int .i64 (IntKind.i64.wrap (((List.length a1.agents:Nat):Int) - 1))),(10,.int .i64 y)],[(1000006000,some ⟨List.map Agent.ds w,some 5,0,false⟩)],[(1,some [.own 1000006000])]⟩)∧
    (∀a0 a1 a3 w y u q g r,DC n a0 a1 a3 w y u q g=some r→DA Tryz.prog Tryz.f134 [1,1,0,1,0,0,1,0,0,1,1] (.tup []) [(1501,⟨List.map Agent.ds r.agents,some 5,0,false⟩)] [(1,[.own 1501])] ⟨[(0,.rop [.ro (List.map Agent.ds a0.agents)] 0),(1,.box 1 0),(3,.int .i64 a3),(8,.int .i64 u.level),(9,.int .i64 (IntKind.i64.wrap (((List.length a1.agents:Nat):Int) - 1))),(10,.int .i64 y),(11,.box 1000007500 0)],[(1000007000,some ⟨List.map Agent.ds w,some 5,0,false⟩),(1000007001,some ⟨List.map AO q.data,some 1,0,false⟩),(1000007002,some ⟨List.map Port.ds q.ports,some 2,0,false⟩)],[(1,some [.own 1000007000]),(1000007500,some [.int .i64 q.kind,.int .i64 g,.int .i64 q.value,.own 1000007001,.own 1000007002])]⟩)∧
    (∀a0 a1 a3 w y g u q j k r,Cc n a0 a1 a3 w y g u q j k=some r→DA Tryz.prog Tryz.f134 [1,1,0,1,0,0,1,0,0,1,1,0,1,0] (.tup []) [(1501,⟨List.map Agent.ds r.agents,some 5,0,false⟩)] [(1,[.own 1501])] ⟨[(0,.rop [.ro (List.map Agent.ds a0.agents)] 0),(1,.box 1 0),(3,.int .i64 a3),(8,.int .i64 u.level),(9,.int .i64 (IntKind.i64.wrap (((List.length a1.agents:Nat):Int) - 1))),(10,.int .i64 y),(11,.box 1000011500 0),(12,.int .i64 k)],[(1000011000,some ⟨List.map Agent.ds w,some 5,0,false⟩),(1000011001,some ⟨List.map AO q.data,some 1,0,false⟩),(1000011002,some ⟨List.map Port.ds j,some 2,0,false⟩)],[(1,some [.own 1000011000]),(1000011500,some [.int .i64 q.kind,.int .i64 g,.int .i64 q.value,.own 1000011001,.own 1000011002])]⟩):=by
 induction n with
 |zero=>exact⟨(fun _ _ _ _ _ _ _ h=>by rw [BM] at h; cases h),(fun _ _ _ _ _ _ _ _ _ h=>by rw [DC] at h; cases h),(fun _ _ _ _ _ _ _ _ _ _ _ h=>by rw [Cc] at h; cases h)⟩
 | succ n ih=>
  obtain⟨ih0,ih1,ih2⟩:=ih
  refine⟨?_,?_,?_⟩
  ·intro a0 a1 a3 u w y r h
   rw [BM] at h
   refine Av rfl rfl (Z ?_)
   refine AX (Z ?_)
   refine AD h (fun h=>Z ?_) (fun h=>Z ?_)
   ·refine AF ?_
    replace h:=AB h; obtain⟨b,d,h⟩:=h
    refine AM d (Agent.ds_len _) (Z ?_)
    replace h:=AB h; obtain⟨q,c,h⟩:=h
    refine AH (Df _ _ c) (Z ?_)
    refine AF ?_
    replace h:=AB h; obtain⟨e,i,h⟩:=h
    refine AH (J4 _ _ i) (Z ?_)
    refine AF ?_
    refine AD h (fun h=>Z ?_) (fun h=>Z ?_)
    ·exact BI (ih1 a0 a1 a3 w y u q (IntKind.i64.wrap (q.level+u.level)) _ h) [(1000007000,1000006000),(1000007001,96096),(1000007002,96097)] [(1,1),(1000007500,6007)]
    ·exact BI (ih1 a0 a1 a3 w y u q q.level _ h) [(1000007000,1000006000),(1000007001,96096),(1000007002,96097)] [(1,1),(1000007500,6007)]
   ·refine AF ?_
    replace h:=AB h; obtain⟨l,t,h⟩:=h
    refine AM t (Agent.ds_len _) (Z ?_)
    replace h:=AB h; obtain⟨s,o,h⟩:=h
    refine AM o (Port.ds_len _) (Z ?_)
    refine AF ?_
    replace h:=AB h; obtain⟨z,u1,h⟩:=h
    refine AH (AS _ _ _ u1) (Z ?_)
    replace h:=AB h; obtain⟨u2,u3,h⟩:=h
    refine AH (AS _ _ _ u3) (Z ?_)
    replace h:=AB h; obtain⟨u4,u5,h⟩:=h
    refine caG ⟨[],[(1001,1000006000)],[(1,1,0)],[(1501,240160)],[],true⟩ (Fv _ _ _ _ u5) (Z ?_)
    cases h
    refine A7 (.done _) [(1501,240160)] [(1,1)] ?_
    simp only [go_sem]
  ·intro a0 a1 a3 w y u q g r h
   rw [DC] at h
   refine Av rfl rfl (Z ?_)
   exact loG (ih2 a0 a1 a3 w y g u q q.ports 0 _ h) [(1000011000,1000007000),(1000011001,1000007001),(1000011002,1000007002)] [(1,1),(1000011500,1000007500)]
  ·intro a0 a1 a3 w y g u q j k r h
   rw [Cc] at h
   refine Av rfl rfl (Z ?_)
   refine AX (Z ?_)
   refine AD h (fun h=>Z ?_) (fun h=>Z ?_)
   ·refine AF ?_
    replace h:=AB h; obtain⟨u6,u7,h⟩:=h
    refine AM u7 (Port.ds_len _) (Z ?_)
    refine AZ (AP u7) (Z ?_)
    replace h:=AB h; obtain⟨u8,u9,h⟩:=h
    refine AM u9 (Port.ds_len _) (Z ?_)
    replace h:=AB h; obtain⟨u10,u11,h⟩:=h
    refine AZ (AP u9) (Z ?_)
    refine An (List.map Port.ds u10) (by rw [← Ao u11]; simp only [List.map_set,go_sem,Port.ds_eq]) (Z ?_)
    refine AF ?_
    exact lpG (ih2 a0 a1 a3 w y g u q u10 (IntKind.i64.wrap (k+1)) _ h) [(1000011000,1000011000),(1000011001,1000011001),(1000011002,1000011002)] [(1,1),(1000011500,1000011500)]
   ·refine AF ?_
    refine AY [false,false,false,false,false,false,false,true,true,true,true] (Tr.sq [7,8,9,10] .fin) (by kernel_rfl) (Z ?_)
    replace h:=AB h; obtain⟨u12,u13,h⟩:=h
    have hq_:=A5 u13
    obtain⟨hv13007a,hv13007b⟩:=hq_
    refine Di false (Z ?_)
    refine BC (by refine⟨?_,?_⟩ <;> (try simp only [List.length_map,List.length_append,List.length_cons,List.length_nil] at*) <;> (try unfold maxLen) <;> omega) (Z ?_)
    refine An (List.map Agent.ds u12) (by rw [← hv13007b]; simp only [List.map_append,List.map_cons,List.map_nil,List.nil_append,List.append_nil,go_sem,Agent.ds_eq]) (Z ?_)
    refine AF ?_
    exact lpG (ih0 a0 a1 a3 u u12 (IntKind.i64.wrap (y+1)) _ h) [(1000006000,208112)] [(1,1)]
theorem Ny (n:Nat):(∀a0 a1 a3 u w y r,BM n a0 a1 a3 u w y=some r→DA Tryz.prog Tryz.f134 [1,1,0,1,0] (.tup []) [(1501,⟨List.map Agent.ds r.agents,some 5,0,false⟩)] [(1,[.own 1501])] ⟨[(0,.rop [.ro (List.map Agent.ds a0.agents)] 0),(1,.box 1 0),(3,.int .i64 a3),(8,.int .i64 u.level),(9,.int .i64 (IntKind.i64.wrap (((List.length a1.agents:Nat):Int) - 1))),(10,.int .i64 y)],[(1000006000,some ⟨List.map Agent.ds w,some 5,0,false⟩)],[(1,some [.own 1000006000])]⟩):=(M4 n).1
theorem SE (a0 a1 a2 a3 r) (h:H3 a0 a1 a2 a3=some r):AG Tryz.prog 134 [.rop [.ro (List.map Agent.ds a0.agents)] 0,.box 1 0,.int .i64 a2,.int .i64 a3] [(1001,⟨List.map Agent.ds a1.agents,some 5,0,false⟩)] [(1,[.own 1001])] (.tup []) [(1501,⟨List.map Agent.ds r.agents,some 5,0,false⟩)] [(1,[.own 1501])] :=by
 unfold H3 at h
 refine agF Tryz.func134 mixed (h:=Z ?_)
 replace h:=AB h; obtain⟨u,w,h⟩:=h
 refine AM w (Agent.ds_len _) (Z ?_)
 refine AZ (AP w) (Z ?_)
 exact loG (Ny fuel a0 a1 a3 u a1.agents 1 _ h) [(1000006000,1001)] [(1,1)]
theorem MZ (a0 a1 r) (h:D9 a0 a1=some r):AG Tryz.prog 135 [.box 1 0,.int .i64 a1] [(1001,⟨List.map Agent.ds a0.agents,some 5,0,false⟩)] [(1,[.own 1001])] (.tup []) [(1501,⟨List.map Agent.ds r.agents,some 5,0,false⟩)] [(1,[.own 1501])] :=by
 unfold D9 at h
 refine agF Tryz.func135 mixed (h:=Z ?_)
 replace h:=AB h; obtain⟨u,w,h⟩:=h
 refine AM w (Agent.ds_len _) (Z ?_)
 replace h:=AB h; obtain⟨y,q,h⟩:=h
 refine AZ (AP w) (Z ?_)
 refine An (List.map Agent.ds y) (by rw [← Ao q]; simp only [List.map_set,go_sem,Agent.ds_eq]) (Z ?_)
 cases h
 refine A7 (.done _) [(1501,1001)] [(1,1)] ?_
 simp only [go_sem]
theorem EU (u:Int × Int) (w:Int) (y:List Agent) (r:Int × Net) (h:Cn u w y=some r):DA Tryz.prog Tryz.f76 [1,1,1,1,1,1,1] (.int .i64 r.1) [(1501,⟨List.map Agent.ds r.2.agents,some 5,0,false⟩)] [(1,[.own 1501])] ⟨[(1,.box 1 0),(2,.int .i64 u.1),(3,.int .i64 u.2),(11,.int .i64 w)],[(1000002000,some ⟨List.map Agent.ds y,some 5,0,false⟩)],[(1,some [.own 1000002000])]⟩:=by
 unfold Cn at h
 refine Av rfl rfl (Z ?_)
 replace h:=AB h; obtain⟨q,g,h⟩:=h
 refine caG ⟨[],[(1001,1000002000)],[(1,1,0)],[(1501,464032)],[],true⟩ (MZ _ _ _ g) (Z ?_)
 refine AF ?_
 refine AD h (fun h=>Z ?_) (fun h=>Z ?_)
 ·replace h:=AB h; obtain⟨j,k,h⟩:=h
  refine caG ⟨[],[(1001,464032)],[(1,1,0)],[(1501,496032)],[],true⟩ (MZ _ _ _ k) (Z ?_)
  refine AF ?_
  cases h
  refine A7 (.done _) [(1501,496032)] [(1,1)] ?_
  simp only [go_sem]
 ·refine AF ?_
  cases h
  refine A7 (.done _) [(1501,464032)] [(1,1)] ?_
  simp only [go_sem]
theorem Si (n:Nat):(∀u w y q g r,EM n u w y q g=some r→DA Tryz.prog Tryz.f76 [1,1,1,1,1,1,0,1,0,1,1,1,1,1,0,1,1,0] (.int .i64 r.1) [(1501,⟨List.map Agent.ds r.2.agents,some 5,0,false⟩)] [(1,[.own 1501])] ⟨[(1,.box 1 0),(2,.int .i64 u.1),(3,.int .i64 u.2),(11,.int .i64 w),(12,.int .i64 ((List.length y.ports:Nat):Int)),(13,.int .i64 g)],[(1000003000,some ⟨List.map Agent.ds q,some 5,0,false⟩)],[(1,some [.own 1000003000])]⟩):=by
 induction n with
 |zero=>exact((fun _ _ _ _ _ _ h=>by rw [EM] at h; cases h))
 | succ n ih=>
  have ih0:=ih
  ·intro u w y q g r h
   rw [EM] at h
   refine Av rfl rfl (Z ?_)
   refine AX (Z ?_)
   refine AD h (fun h=>Z ?_) (fun h=>Z ?_)
   ·refine AF ?_
    replace h:=AB h; obtain⟨j,k,h⟩:=h
    refine caG ⟨[],[(1001,1000003000)],[(1,1,0)],[(1501,336016)],[],true⟩ (EE _ _ _ _ _ _ _ k) (Z ?_)
    refine AF ?_
    replace h:=AB h; obtain⟨b,d,h⟩:=h
    refine AH (AS _ _ _ d) (Z ?_)
    replace h:=AB h; obtain⟨c,e,h⟩:=h
    refine AH (AS _ _ _ e) (Z ?_)
    replace h:=AB h; obtain⟨i,l,h⟩:=h
    refine caG ⟨[],[(1001,336016)],[(1,1,0)],[(1501,352096)],[],true⟩ (Cq _ _ _ _ l) (Z ?_)
    refine AF ?_
    exact lpG (ih0 u w y i.agents (IntKind.i64.wrap (g+1)) _ h) [(1000003000,352096)] [(1,1)]
   ·exact BI (EU u w q _ h) [(1000002000,1000003000)] [(1,1)]
theorem NK (a0:List Net) (a1:Net) (u:Int × Int) (w:Int) (y:Bool) (r:Int × Net) (h:GV a0 a1 u w y=some r):DA Tryz.prog Tryz.f76 [1,1,1,1,1,1,0,1,0,1] (.int .i64 r.1) [(1501,⟨List.map Agent.ds r.2.agents,some 5,0,false⟩)] [(1,[.own 1501])] ⟨[(0,.ro (List.map Net.ds a0)),(1,.box 1 0),(2,.int .i64 u.1),(3,.int .i64 u.2),(11,.int .i64 w),(51,.int .i64 w),(52,.bool y)],[(1000000000,some ⟨List.map Agent.ds a1.agents,some 5,0,false⟩)],[(1,some [.own 1000000000])]⟩:=by
 unfold GV at h
 refine Av rfl rfl (Z ?_)
 refine AD h (fun h=>Z ?_) (fun h=>Z ?_)
 ·replace h:=AB h; obtain⟨q,g,h⟩:=h
  refine AH (AS _ _ _ g) (Z ?_)
  replace h:=AB h; obtain⟨k,b,h⟩:=h
  refine AH (AS _ _ _ b) (Z ?_)
  replace h:=AB h; obtain⟨d,c,h⟩:=h
  refine caG ⟨[],[(1001,1000000000)],[(1,1,0)],[(1501,192080)],[],true⟩ (Ox _ _ _ _ c) (Z ?_)
  refine AF ?_
  replace h:=AB h; obtain⟨e,i,h⟩:=h
  refine AH (AS _ _ _ i) (Z ?_)
  replace h:=AB h; obtain⟨l,t,h⟩:=h
  refine AH (AS _ _ _ t) (Z ?_)
  replace h:=AB h; obtain⟨s,o,h⟩:=h
  refine caG ⟨[],[(1001,192080)],[(1,1,0)],[(1501,208080)],[],true⟩ (Ox _ _ _ _ o) (Z ?_)
  exact BI (EU u w s.agents _ h) [(1000002000,208080)] [(1,1)]
 ·refine AD h (fun h=>Z ?_) (fun h=>Z ?_)
  ·replace h:=AB h; obtain⟨z,u1,h⟩:=h
   refine caG ⟨[],[(1001,1000000000)],[(1,1,0)],[(1501,240048)],[],true⟩ (O0 _ _ _ _ u1) (Z ?_)
   exact BI (EU u w z.agents _ h) [(1000002000,240048)] [(1,1)]
  ·refine AD h (fun h=>Z ?_) (fun h=>Z ?_)
   ·replace h:=AB h; obtain⟨u2,u3,h⟩:=h
    refine AM u3 (Agent.ds_len _) (Z ?_)
    refine AZ (AP u3) (Z ?_)
    refine AZ (DJ (sz:=5) (j:=4) (r:=List.map Port.ds u2.ports) (AP (f:=Agent.ds) u3) (Agent.ds_len _) (by rw [Agent.ds_eq]; rfl)) (Z ?_)
    exact loG (Si fuel u w u2 a1.agents 1 _ h) [(1000003000,1000000000)] [(1,1)]
   ·refine AD h (fun h=>Z ?_) (fun h=>Z ?_)
    ·replace h:=AB h; obtain⟨u4,u5,h⟩:=h
     refine caG ⟨[],[(1001,1000000000)],[(1,1,0)],[(1501,384048)],[],true⟩ (Qc _ _ _ _ u5) (Z ?_)
     exact BI (EU u w u4.agents _ h) [(1000002000,384048)] [(1,1)]
    ·refine AD h (fun h=>Z ?_) (fun h=>Z ?_)
     ·replace h:=AB h; obtain⟨u6,u7,h⟩:=h
      refine caG ⟨[],[(1001,1000000000)],[(1,1,0)],[(1501,416048)],[],true⟩ (SD _ _ _ _ u7) (Z ?_)
      exact BI (EU u w u6.agents _ h) [(1000002000,416048)] [(1,1)]
     ·refine AD h (fun h=>Z ?_) (fun h=>Z ?_)
      ·replace h:=AB h; obtain⟨u8,u9,h⟩:=h
       refine AM u9 (Agent.ds_len _) (Z ?_)
       refine AZ (AP u9) (Z ?_)
       replace h:=AB h; obtain⟨u10,u11,h⟩:=h
       refine AM u11 (Net.ds_len _) (Z ?_)
       replace h:=AB h; obtain⟨u12,u13,h⟩:=h
       refine caG ⟨[],[(1001,1000000000)],[(1,1,0)],[(1501,448208)],[],true⟩ (SE _ _ _ _ _ u13) (Z ?_)
       exact BI (EU u w u12.agents _ h) [(1000002000,448208)] [(1,1)]
      ·exact BI (EU u w a1.agents _ h) [(1000002000,1000000000)] [(1,1)]
theorem XY (a0 a1 a2 a3 r) (h:IS a0 a1 a2 a3=some r):AG Tryz.prog 76 [.ro (List.map Net.ds a0),.box 1 0,.int .i64 a2,.int .i64 a3] [(1001,⟨List.map Agent.ds a1.agents,some 5,0,false⟩)] [(1,[.own 1001])] (.int .i64 r.1) [(1501,⟨List.map Agent.ds r.2.agents,some 5,0,false⟩)] [(1,[.own 1501])] :=by
 unfold IS at h
 refine agF Tryz.func76 mixed (h:=Z ?_)
 replace h:=AB h; obtain⟨u,w,h⟩:=h
 refine AH (SB _ _ _ _ _ w) (Z ?_)
 refine AF ?_
 refine AD h (fun h=>Z ?_) (fun h=>Z ?_)
 ·cases h
  refine A7 (.done _) [(1501,1001)] [(1,1)] ?_
  simp only [go_sem]
 ·refine AF ?_
  replace h:=AB h; obtain⟨y,q,h⟩:=h
  refine AH (Oz _ _ q) (Z ?_)
  refine AF ?_
  refine AD h (fun h=>Z ?_) (fun h=>Z ?_)
  ·cases h
   refine A7 (.done _) [(1501,1001)] [(1,1)] ?_
   simp only [go_sem]
  ·refine AF ?_
   replace h:=AB h; obtain⟨g,j,h⟩:=h
   refine AH (NJ _ _ _ _ j) (Z ?_)
   refine AF ?_
   refine AY [] .fin (by kernel_rfl) (Z ?_)
   replace h:=AB h; obtain⟨k,b,h⟩:=h
   refine AM b (Agent.ds_len _) (Z ?_)
   replace h:=AB h; obtain⟨d,c,h⟩:=h
   refine AM c (Agent.ds_len _) (Z ?_)
   replace h:=AB h; obtain⟨e,i,h⟩:=h
   refine Jy (by simp only [AP b,AP c,Agent.ds_eq,go_sem,Nat.reduceEqDiff,reduceIte] <;> rfl) (J5 _ _ _ i) (Z ?_)
   refine AF ?_
   refine AD h (fun h=>Z ?_) (fun h=>Z ?_)
   ·exact BI (NK a0 a1 g e (decide (e=1)) _ h) [(1000000000,1001)] [(1,1)]
   ·exact BI (NK a0 a1 g e (decide (e=2)) _ h) [(1000000000,1001)] [(1,1)]
theorem O3 (n:Nat):(∀a0 u w r,Bw n a0 u w=some r→Al Tryz.prog Tryz.f85 [1,1,0,1,0] (.ow (some 2) (List.map Pair.ds r)) ⟨[(0,.rop [.ro (List.map Agent.ds a0.agents)] 0),(3,.own 1000002000),(4,.int .i64 w)],[(1000002000,some ⟨List.map Pair.ds u,some 2,0,false⟩)],[]⟩)∧
    (∀a0 u w y q r,EN n a0 u w y q=some r→Al Tryz.prog Tryz.f85 [1,1,0,1,0,0,1,0,0,1,1,1] (.ow (some 2) (List.map Pair.ds r)) ⟨[(0,.rop [.ro (List.map Agent.ds a0.agents)] 0),(3,.own 1000003000),(4,.int .i64 w),(5,.box 1000003500 0),(43,.bool q)],[(1000003000,some ⟨List.map Pair.ds u,some 2,0,false⟩)],[(1000003500,some [.int .i64 y.agent,.int .i64 y.slot])]⟩):=by
 induction n with
 |zero=>exact⟨(fun _ _ _ _ h=>by rw [Bw] at h; cases h),(fun _ _ _ _ _ _ h=>by rw [EN] at h; cases h)⟩
 | succ n ih=>
  obtain⟨ih0,ih1⟩:=ih
  refine⟨?_,?_⟩
  ·intro a0 u w r h
   rw [Bw] at h
   refine AN rfl rfl (Z ?_)
   refine AX (Z ?_)
   refine AD h (fun h=>Z ?_) (fun h=>Z ?_)
   ·refine AF ?_
    replace h:=AB h; obtain⟨g,j,h⟩:=h
    refine AM j (Agent.ds_len _) (Z ?_)
    refine AD h (fun h=>Z ?_) (fun h=>Z ?_)
    ·refine AF ?_
     exact lpF (ih0 a0 u (IntKind.i64.wrap (w+1)) _ h) [(1000002000,1000002000)] []
    ·refine AF ?_
     replace h:=AB h; obtain⟨k,b,h⟩:=h
     refine AM b (Agent.ds_len _) (Z ?_)
     replace h:=AB h; obtain⟨y,d,h⟩:=h
     refine AM d (Port.ds_len _) (Z ?_)
     refine AF ?_
     refine AD h (fun h=>Z ?_) (fun h=>Z ?_)
     ·exact AW (ih1 a0 u w y (decide (w<y.agent)) _ h) [(1000003000,1000002000)] [(1000003500,7010)]
     ·exact AW (ih1 a0 u w y false _ h) [(1000003000,1000002000)] [(1000003500,7010)]
   ·refine AF ?_
    cases h
    simp only [go_sem]
  ·intro a0 u w y q r h
   rw [EN] at h
   refine AN rfl rfl (Z ?_)
   refine AD h (fun h=>Z ?_) (fun h=>Z ?_)
   ·replace h:=AB h; obtain⟨c,e,h⟩:=h
    have hq_:=A5 e
    obtain⟨hv9006a,hv9006b⟩:=hq_
    refine Di false (Z ?_)
    refine BC (by refine⟨?_,?_⟩ <;> (try simp only [List.length_map,List.length_append,List.length_cons,List.length_nil] at*) <;> (try unfold maxLen) <;> omega) (Z ?_)
    refine An (List.map Pair.ds c) (by rw [← hv9006b]; simp only [List.map_append,List.map_cons,List.map_nil,List.nil_append,List.append_nil,go_sem,Pair.ds_eq]) (Z ?_)
    refine AF ?_
    exact lpF (ih0 a0 c (IntKind.i64.wrap (w+1)) _ h) [(1000002000,144096)] []
   ·refine AF ?_
    exact lpF (ih0 a0 u (IntKind.i64.wrap (w+1)) _ h) [(1000002000,1000003000)] []
theorem Pl (n:Nat):(∀a0 u w r,Bw n a0 u w=some r→Al Tryz.prog Tryz.f85 [1,1,0,1,0] (.ow (some 2) (List.map Pair.ds r)) ⟨[(0,.rop [.ro (List.map Agent.ds a0.agents)] 0),(3,.own 1000002000),(4,.int .i64 w)],[(1000002000,some ⟨List.map Pair.ds u,some 2,0,false⟩)],[]⟩):=(O3 n).1
theorem Sj (a0 r) (h:HY a0=some r):AC Tryz.prog 85 [.rop (Net.avs a0) 0] (.ow (some 2) (List.map Pair.ds r)):=by
 unfold HY at h
 refine acF Tryz.func85 mixed (h:=Z ?_)
 refine Ch (DK rfl rfl (Pl fuel a0 [] 1 _ h):) (.one ⟨_,.lit 3 2000000000 2000 0 2 false [] _ _ (by (first|rfl|(simp only [go_sem]; rfl))) (by simp only [go_sem]; rfl) (by (first|rfl|(simp only [go_sem]; rfl))) (by (first|rfl|(simp only [go_sem]; rfl))) (by decide) (by decide) (by simp only [go_sem]) (.done _),[(1000002000,2000000000)],[],?_⟩)
 simp only [go_sem]
 all_goals try rfl
theorem O4 (n:Nat):(∀a0 u w y r,BS n a0 u w y=some r→DA Tryz.prog Tryz.f77 [1,1,1,1,0,1,0] (.tup []) [(1501,⟨List.map Agent.ds r.agents,some 5,0,false⟩)] [(1,[.own 1501])] ⟨[(0,.box 1 0),(2,.own 1000007001),(5,.own 1000007002),(6,.int .i64 y)],[(1000007000,some ⟨List.map Agent.ds a0.agents,some 5,0,false⟩),(1000007001,some ⟨List.map AO u,some 1,0,false⟩),(1000007002,some ⟨List.map Agent.ds w,some 5,0,false⟩)],[(1,some [.own 1000007000])]⟩)∧
    (∀a0 u w y q g j r,DX n a0 u w y q g j=some r→DA Tryz.prog Tryz.f77 [1,1,1,1,0,1,0,0,1,0,0,1,0,1,0,1,0] (.tup []) [(1501,⟨List.map Agent.ds r.agents,some 5,0,false⟩)] [(1,[.own 1501])] ⟨[(0,.box 1 0),(2,.own 1000011001),(5,.own 1000011002),(6,.int .i64 y),(7,.box 1000011500 0),(8,.int .i64 j)],[(1000011000,some ⟨List.map Agent.ds a0.agents,some 5,0,false⟩),(1000011001,some ⟨List.map AO u,some 1,0,false⟩),(1000011002,some ⟨List.map Agent.ds w,some 5,0,false⟩),(1000011003,some ⟨List.map AO q.data,some 1,0,false⟩),(1000011004,some ⟨List.map Port.ds g,some 2,0,false⟩)],[(1,some [.own 1000011000]),(1000011500,some [.int .i64 q.kind,.int .i64 q.level,.int .i64 q.value,.own 1000011003,.own 1000011004])]⟩):=by
 induction n with
 |zero=>exact⟨(fun _ _ _ _ _ h=>by rw [BS] at h; cases h),(fun _ _ _ _ _ _ _ _ h=>by rw [DX] at h; cases h)⟩
 | succ n ih=>
  obtain⟨ih0,ih1⟩:=ih
  refine⟨?_,?_⟩
  ·intro a0 u w y r h
   rw [BS] at h
   refine Av rfl rfl (Z ?_)
   refine AX (Z ?_)
   refine AD h (fun h=>Z ?_) (fun h=>Z ?_)
   ·refine AF ?_
    replace h:=AB h; obtain⟨k,b,h⟩:=h
    refine AM b (Agent.ds_len _) (Z ?_)
    refine AZ (AP b) (Z ?_)
    refine AD h (fun h=>Z ?_) (fun h=>Z ?_)
    ·replace h:=AB h; obtain⟨d,c,h⟩:=h
     refine AM c (Agent.ds_len _) (Z ?_)
     replace h:=AB h; obtain⟨q,e,h⟩:=h
     refine Jy (by simp only [AP c,Agent.ds_eq,go_sem,Nat.reduceEqDiff,reduceIte] <;> rfl) (Df _ _ e) (Z ?_)
     refine AF ?_
     exact loG (ih1 a0 u w y q q.ports 0 _ h) [(1000011000,1000007000),(1000011001,1000007001),(1000011002,1000007002),(1000011003,224096),(1000011004,224097)] [(1,1),(1000011500,14007)]
    ·refine AF ?_
     exact lpG (ih0 a0 u w (IntKind.i64.wrap (y+1)) _ h) [(1000007000,1000007000),(1000007001,1000007001),(1000007002,1000007002)] [(1,1)]
   ·refine AF ?_
    cases h
    refine A7 (.done _) [(1501,1000007002)] [(1,1)] ?_
    simp only [go_sem]
  ·intro a0 u w y q g j r h
   rw [DX] at h
   refine Av rfl rfl (Z ?_)
   refine AX (Z ?_)
   refine AD h (fun h=>Z ?_) (fun h=>Z ?_)
   ·refine AF ?_
    refine AY [false,false,false,false,false,false,false,false,false,false,false,false,false,false,true] (Tr.sq [14] .fin) (by kernel_rfl) (Z ?_)
    replace h:=AB h; obtain⟨i,l,h⟩:=h
    refine AM l (Port.ds_len _) (Z ?_)
    refine AZ (AP l) (Z ?_)
    replace h:=AB h; obtain⟨t,s,h⟩:=h
    refine AM s rfl (Z ?_)
    refine AZ (AP s) (Z ?_)
    replace h:=AB h; obtain⟨o,z,h⟩:=h
    refine AM z (Port.ds_len _) (Z ?_)
    replace h:=AB h; obtain⟨u1,u2,h⟩:=h
    refine AZ (AP z) (Z ?_)
    refine An (List.map Port.ds u1) (by rw [← Ao u2]; simp only [List.map_set,go_sem,Port.ds_eq]) (Z ?_)
    refine AF ?_
    exact lpG (ih1 a0 u w y q u1 (IntKind.i64.wrap (j+1)) _ h) [(1000011000,1000011000),(1000011001,1000011001),(1000011002,1000011002),(1000011003,1000011003),(1000011004,1000011004)] [(1,1),(1000011500,1000011500)]
   ·refine AF ?_
    replace h:=AB h; obtain⟨u3,u4,h⟩:=h
    have hq_:=A5 u4
    obtain⟨hv19003a,hv19003b⟩:=hq_
    refine Di false (Z ?_)
    refine BC (by refine⟨?_,?_⟩ <;> (try simp only [List.length_map,List.length_append,List.length_cons,List.length_nil] at*) <;> (try unfold maxLen) <;> omega) (Z ?_)
    refine An (List.map Agent.ds u3) (by rw [← hv19003b]; simp only [List.map_append,List.map_cons,List.map_nil,List.nil_append,List.append_nil,go_sem,Agent.ds_eq]) (Z ?_)
    refine AF ?_
    exact lpG (ih0 a0 u u3 (IntKind.i64.wrap (y+1)) _ h) [(1000007000,1000011000),(1000007001,1000011001),(1000007002,304048)] [(1,1)]
theorem Pm (n:Nat):(∀a0 u w y r,BS n a0 u w y=some r→DA Tryz.prog Tryz.f77 [1,1,1,1,0,1,0] (.tup []) [(1501,⟨List.map Agent.ds r.agents,some 5,0,false⟩)] [(1,[.own 1501])] ⟨[(0,.box 1 0),(2,.own 1000007001),(5,.own 1000007002),(6,.int .i64 y)],[(1000007000,some ⟨List.map Agent.ds a0.agents,some 5,0,false⟩),(1000007001,some ⟨List.map AO u,some 1,0,false⟩),(1000007002,some ⟨List.map Agent.ds w,some 5,0,false⟩)],[(1,some [.own 1000007000])]⟩):=(O4 n).1
theorem Qd (n:Nat):(∀a0 u w y r,DN n a0 u w y=some r→DA Tryz.prog Tryz.f77 [1,1,0,1,0] (.tup []) [(1501,⟨List.map Agent.ds r.agents,some 5,0,false⟩)] [(1,[.own 1501])] ⟨[(0,.box 1 0),(2,.own 1000001001),(3,.int .i64 w),(4,.int .i64 y)],[(1000001000,some ⟨List.map Agent.ds a0.agents,some 5,0,false⟩),(1000001001,some ⟨List.map AO u,some 1,0,false⟩)],[(1,some [.own 1000001000])]⟩):=by
 induction n with
 |zero=>exact((fun _ _ _ _ _ h=>by rw [DN] at h; cases h))
 | succ n ih=>
  have ih0:=ih
  ·intro a0 u w y r h
   rw [DN] at h
   refine Av rfl rfl (Z ?_)
   refine AX (Z ?_)
   refine AD h (fun h=>Z ?_) (fun h=>Z ?_)
   ·refine AF ?_
    replace h:=AB h; obtain⟨q,g,h⟩:=h
    have hq_:=A5 g
    obtain⟨hv6003a,hv6003b⟩:=hq_
    refine Di false (Z ?_)
    refine BC (by refine⟨?_,?_⟩ <;> (try simp only [List.length_map,List.length_append,List.length_cons,List.length_nil] at*) <;> (try unfold maxLen) <;> omega) (Z ?_)
    refine An (List.map AO q) (by rw [← hv6003b]; simp only [List.map_append,List.map_cons,List.map_nil,List.nil_append,List.append_nil,go_sem,slD]) (Z ?_)
    refine AF ?_
    replace h:=AB h; obtain⟨j,k,h⟩:=h
    refine AM k (Agent.ds_len _) (Z ?_)
    refine AZ (AP k) (Z ?_)
    refine AD h (fun h=>Z ?_) (fun h=>Z ?_)
    ·refine AF ?_
     exact lpG (ih0 a0 q (IntKind.i64.wrap (w+1)) (IntKind.i64.wrap (y+1)) _ h) [(1000001000,1000001000),(1000001001,96048)] [(1,1)]
    ·refine AF ?_
     exact lpG (ih0 a0 q w (IntKind.i64.wrap (y+1)) _ h) [(1000001000,1000001000),(1000001001,96048)] [(1,1)]
   ·refine AF ?_
    refine Ch (Gy rfl rfl (Pm fuel a0 u [] 0 _ h):) (.one ⟨_,.lit 5 2000000000 9000 0 5 false [] _ _ (by (first|rfl|(simp only [go_sem]; rfl))) (by simp only [go_sem]; rfl) (by (first|rfl|(simp only [go_sem]; rfl))) (by (first|rfl|(simp only [go_sem]; rfl))) (by decide) (by decide) (by simp only [go_sem]) (.done _),[(1000007000,1000001000),(1000007001,1000001001),(1000007002,2000000000)],[(1,1)],?_⟩)
    simp only [go_sem]
    all_goals try rfl
theorem UV (a0 r) (h:Gk a0=some r):AG Tryz.prog 77 [.box 1 0] [(1001,⟨List.map Agent.ds a0.agents,some 5,0,false⟩)] [(1,[.own 1001])] (.tup []) [(1501,⟨List.map Agent.ds r.agents,some 5,0,false⟩)] [(1,[.own 1501])] :=by
 unfold Gk at h
 refine agF Tryz.func77 mixed (h:=Z ?_)
 refine Ch (Gy rfl rfl (Qd fuel a0 [] 0 0 _ h):) (.one ⟨_,.lit 2 2000000000 1000 0 1 false [] _ _ (by (first|rfl|(simp only [go_sem]; rfl))) (by simp only [go_sem]; rfl) (by (first|rfl|(simp only [go_sem]; rfl))) (by (first|rfl|(simp only [go_sem]; rfl))) (by decide) (by decide) (by simp only [go_sem]) (.done _),[(1000001000,1001),(1000001001,2000000000)],[(1,1)],?_⟩)
 simp only [go_sem]
 all_goals try rfl
theorem SF (n:Nat):(∀a0 u w r,Fb n a0 u w=some r→Al Tryz.prog Tryz.f75 [1,1,0,1,0] (.agg (Net.rv r)) ⟨[(0,.rop [.ro (List.map Agent.ds a0.agents)] 0),(2,.box 1000001500 0),(3,.box 1000001501 0),(4,.int .i64 w)],[(1000001000,some ⟨List.map Agent.ds u,some 5,0,false⟩)],[(1000001500,some [.nils]),(1000001501,some [.own 1000001000])]⟩):=by
 induction n with
 |zero=>exact((fun _ _ _ _ h=>by rw [Fb] at h; cases h))
 | succ n ih=>
  have ih0:=ih
  ·intro a0 u w r h
   rw [Fb] at h
   refine AN rfl rfl (Z ?_)
   refine AX (Z ?_)
   refine AD h (fun h=>Z ?_) (fun h=>Z ?_)
   ·refine AF ?_
    refine AY [false,false,false,false,false,false,false,false,false,false,true,true,true] (Tr.sq [10,11,12] .fin) (by kernel_rfl) (Z ?_)
    replace h:=AB h; obtain⟨y,q,h⟩:=h
    refine AM q (Agent.ds_len _) (Z ?_)
    replace h:=AB h; obtain⟨g,j,h⟩:=h
    refine AH (Df _ _ j) (Z ?_)
    replace h:=AB h; obtain⟨k,b,h⟩:=h
    have hq_:=A5 b
    obtain⟨hv6010a,hv6010b⟩:=hq_
    refine Di false (Z ?_)
    refine BC (by refine⟨?_,?_⟩ <;> (try simp only [List.length_map,List.length_append,List.length_cons,List.length_nil] at*) <;> (try unfold maxLen) <;> omega) (Z ?_)
    refine An (List.map Agent.ds k) (by rw [← hv6010b]; simp only [List.map_append,List.map_cons,List.map_nil,List.nil_append,List.append_nil,go_sem,Agent.ds_eq]) (Z ?_)
    refine AF ?_
    exact lpF (ih0 a0 k (IntKind.i64.wrap (w+1)) _ h) [(1000001000,96160)] [(1000001500,1000001500),(1000001501,1000001501)]
   ·refine AF ?_
    cases h
    simp only [go_sem]
theorem WK (a0 r) (h:MB a0=some r):AC Tryz.prog 75 [.rop (Net.avs a0) 0] (.agg (Net.rv r)):=by
 unfold MB at h
 refine acF Tryz.func75 mixed (h:=Z ?_)
 refine AF ?_
 refine AF ?_
 refine Ch (DK rfl rfl (SF fuel a0 [] 0 _ h):) (.one ⟨_,.cell 2001 0 2000000000 (some 5) false _ (by simp only [go_sem]; rfl) (by rfl) (by simp only [go_sem]) (.done _),[(1000001000,2000000000)],[(1000001500,1000),(1000001501,2001)],?_⟩)
 simp only [go_sem]
 all_goals try rfl
end Go.Proofs.YtckcfdggbbabfaaGreat.Ab
