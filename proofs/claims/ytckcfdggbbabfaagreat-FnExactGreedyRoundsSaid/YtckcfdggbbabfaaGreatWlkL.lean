/-
 The functions do what their models say. Printed by wip/ab/gen.py.
-/
import Derived.Test.YtckcfdggbbabfaaGreatModL
import Derived.Test.YtckcfdggbbabfaaGreatTi2
import Derived.Test.YtckcfdggbbabfaaGreatWlkU
namespace Go.Proofs.YtckcfdggbbabfaaGreat.Ab
set_option linter.unusedVariables false
set_option linter.unusedSimpArgs false
set_option maxRecDepth 20000
set_option maxHeartbeats 4000000
open Go.RowKit
theorem E7 (a0 a1 a2 r) (h:s_l11Link a0 a1 a2=some r):AG Tryz.prog 193 [.box 1 0,.agg [.int .i64 a1.agent,.int .i64 a1.slot],.agg [.int .i64 a2.agent,.int .i64 a2.slot]] [(1001,⟨List.map Agent.ds a0.agents,some 5,0,false⟩)] [(1,[.own 1001])] (.tup []) [(1501,⟨List.map Agent.ds r.agents,some 5,0,false⟩)] [(1,[.own 1501])] :=by
 unfold s_l11Link at h
 refine agF Tryz.func193 mixed (h:=Z ?_)
 refine AX [false,false,false,false,false,false,false,false,false,false,false,false,false,true] (Tr.sq [13] .fin) (by kernel_rfl) (Z ?_)
 replace h:=AD h; obtain⟨u,w,h⟩:=h
 refine AM w (Agent.ds_len _) (Z ?_)
 refine Ai (AW w) (Z ?_)
 replace h:=AD h; obtain⟨y,q,h⟩:=h
 refine Ai (Eg (sz:=5) (j:=4) (r:=List.map Port.ds u.ports) (AW (f:=Agent.ds) w) (Agent.ds_len _) (by rw [Agent.ds_eq]; rfl)) (Z ?_)
 refine AM q (Port.ds_len _) (Z ?_)
 replace h:=AD h; obtain⟨g,k,h⟩:=h
 replace h:=AD h; obtain⟨b,d,h⟩:=h
 refine Ai (Eg (sz:=5) (j:=4) (r:=List.map Port.ds u.ports) (AW (f:=Agent.ds) w) (Agent.ds_len _) (by rw [Agent.ds_eq]; rfl)) (Z ?_)
 refine Ai (AW q) (Z ?_)
 try refine BO ⟨List.cons_ne_nil _ _,by rfl,by decide,by rfl⟩ ?_
 try simp only [go_sem]
 refine BP (List.map Agent.ds b) ((MI (AW (f:=Agent.ds) w) (d':=.sl (List.map Port.ds u.ports)) (by simp only [go_sem,Agent.ds_eq])).trans (by rw [← Bo d,← Bo k]; simp only [List.map_set,List.set_cons_succ,List.set_cons_zero,go_sem,Agent.ds_eq,Port.ds_eq])) (Z ?_)
 refine AF ?_
 refine AX [false,false,false,false,false,false,false,false,false,false,false,false,false,true] (Tr.sq [13] .fin) (by kernel_rfl) (Z ?_)
 replace h:=AD h; obtain⟨c,e,h⟩:=h
 refine AM e (Agent.ds_len _) (Z ?_)
 refine Ai (AW e) (Z ?_)
 replace h:=AD h; obtain⟨i,l,h⟩:=h
 refine Ai (Eg (sz:=5) (j:=4) (r:=List.map Port.ds c.ports) (AW (f:=Agent.ds) e) (Agent.ds_len _) (by rw [Agent.ds_eq]; rfl)) (Z ?_)
 refine AM l (Port.ds_len _) (Z ?_)
 replace h:=AD h; obtain⟨t,s,h⟩:=h
 replace h:=AD h; obtain⟨o,z,h⟩:=h
 refine Ai (Eg (sz:=5) (j:=4) (r:=List.map Port.ds c.ports) (AW (f:=Agent.ds) e) (Agent.ds_len _) (by rw [Agent.ds_eq]; rfl)) (Z ?_)
 refine Ai (AW l) (Z ?_)
 try refine BO ⟨List.cons_ne_nil _ _,by rfl,by decide,by rfl⟩ ?_
 try simp only [go_sem]
 refine BP (List.map Agent.ds o) ((MI (AW (f:=Agent.ds) e) (d':=.sl (List.map Port.ds c.ports)) (by simp only [go_sem,Agent.ds_eq])).trans (by rw [← Bo z,← Bo s]; simp only [List.map_set,List.set_cons_succ,List.set_cons_zero,go_sem,Agent.ds_eq,Port.ds_eq])) (Z ?_)
 cases h
 refine BD (.done _) [(1501,1001)] [(1,1)] ?_
 simp only [go_sem]
theorem Jx (a0 a1 r) (h:Fh a0 a1=some r):AC Tryz.prog 192 [.rop (Net.avs a0) 0,.agg (Port.avs a1)] (.agg (Port.rv r)):=by
 unfold Fh at h
 refine acF Tryz.func192 mixed (h:=Z ?_)
 refine AF ?_
 refine AX [false,false,false,false,false,false,false,false,false,false,false,false,false,true] (Tr.sq [13] .fin) (by kernel_rfl) (Z ?_)
 replace h:=AD h; obtain⟨u,w,h⟩:=h
 refine AM w (Agent.ds_len _) (Z ?_)
 replace h:=AD h; obtain⟨y,q,h⟩:=h
 refine AM q (Port.ds_len _) (Z ?_)
 refine AF ?_
 cases h
 simp only [go_sem]
theorem ND (a0 a1 a2 r) (h:E2 a0 a1 a2=some r):AG Tryz.prog 127 [.box 1 0,.agg [.int .i64 a1.agent,.int .i64 a1.slot],.agg [.int .i64 a2.agent,.int .i64 a2.slot]] [(1001,⟨List.map Agent.ds a0.agents,some 5,0,false⟩)] [(1,[.own 1001])] (.tup []) [(1501,⟨List.map Agent.ds r.agents,some 5,0,false⟩)] [(1,[.own 1501])] :=by
 unfold E2 at h
 refine agF Tryz.func127 mixed (h:=Z ?_)
 replace h:=AD h; obtain⟨u,w,h⟩:=h
 refine AI (Jx _ _ _ w) (Z ?_)
 refine AF ?_
 replace h:=AD h; obtain⟨y,q,h⟩:=h
 refine AI (Jx _ _ _ q) (Z ?_)
 refine AF ?_
 refine AB h (fun h=>Z ?_) (fun h=>Z ?_)
 ·replace h:=AD h; obtain⟨g,j,h⟩:=h
  refine caG ⟨[],[(1001,1001)],[(1,1,0)],[(1501,80048)],[],true⟩ (E7 _ _ _ _ j) (Z ?_)
  cases h
  refine BD (.done _) [(1501,80048)] [(1,1)] ?_
  simp only [go_sem]
 ·cases h
  refine BD (.done _) [(1501,1001)] [(1,1)] ?_
  simp only [go_sem]
theorem CU (a0 a1 a2 r) (h:Be a0 a1 a2=some r):AG Tryz.prog 131 [.box 1 0,.agg [.int .i64 a1.agent,.int .i64 a1.slot],.agg [.int .i64 a2.agent,.int .i64 a2.slot]] [(1001,⟨List.map Agent.ds a0.agents,some 5,0,false⟩)] [(1,[.own 1001])] (.tup []) [(1501,⟨List.map Agent.ds r.agents,some 5,0,false⟩)] [(1,[.own 1501])] :=by
 unfold Be at h
 refine agF Tryz.func131 mixed (h:=Z ?_)
 refine AX [false,false,false,false,false,true] (Tr.sq [5] .fin) (by kernel_rfl) (Z ?_)
 replace h:=AD h; obtain⟨u,w,h⟩:=h
 refine AI (Jx _ _ _ w) (Z ?_)
 replace h:=AD h; obtain⟨y,q,h⟩:=h
 refine caG ⟨[],[(1001,1001)],[(1,1,0)],[(1501,32080)],[],true⟩ (E7 _ _ _ _ q) (Z ?_)
 cases h
 refine BD (.done _) [(1501,32080)] [(1,1)] ?_
 simp only [go_sem]
theorem NE (a0 a1 a2 a3 r) (h:Hd a0 a1 a2 a3=some r):AC Tryz.prog 223 [.int .i64 a0,.int .i64 a1,.int .i64 a2,.int .i64 a3] (.bool r):=by
 unfold Hd at h
 refine acF Tryz.func223 mixed (h:=Z ?_)
 replace h:=AD h; obtain⟨u,w,h⟩:=h
 refine AI (Gk _ _ _ w) (Z ?_)
 refine AB h (fun h=>Z ?_) (fun h=>Z ?_)
 ·replace h:=AD h; obtain⟨y,q,h⟩:=h
  refine AI (Gk _ _ _ q) (Z ?_)
  refine AB h (fun h=>Z ?_) (fun h=>Z ?_)
  ·refine AB h (fun h=>Z ?_) (fun h=>Z ?_)
   ·refine AF ?_
    cases h
    simp only [go_sem]
   ·refine AF ?_
    cases h
    simp only [go_sem]
  ·refine AF ?_
   cases h
   simp only [go_sem]
 ·refine AF ?_
  cases h
  simp only [go_sem]
theorem IE (a0:Int) (a1:Int) (a2:Int) (u:Bool) (r:Bool) (h:EM a0 a1 a2 u=some r):Aw Tryz.prog Tryz.f243 [1,1,0,1] (.bool r) ⟨[(0,.int .i64 a0),(1,.int .i64 a1),(2,.int .i64 a2),(21,.bool u)],[],[]⟩:=by
 unfold EM at h
 refine AN rfl rfl (Z ?_)
 refine AB h (fun h=>Z ?_) (fun h=>Z ?_)
 ·cases h
  simp only [go_sem]
 ·refine AF ?_
  replace h:=AD h; obtain⟨w,y,h⟩:=h
  refine AI (Io _ _ y) (Z ?_)
  refine AB h (fun h=>Z ?_) (fun h=>Z ?_)
  ·refine AF ?_
   cases h
   simp only [go_sem]
  ·refine AF ?_
   cases h
   simp only [go_sem]
theorem IF (a0:Int) (a1:Int) (a2:Int) (u:Bool) (r:Bool) (h:EN a0 a1 a2 u=some r):Aw Tryz.prog Tryz.f243 [1,0,1] (.bool r) ⟨[(0,.int .i64 a0),(1,.int .i64 a1),(2,.int .i64 a2),(15,.bool u)],[],[]⟩:=by
 unfold EN at h
 refine AN rfl rfl (Z ?_)
 refine AB h (fun h=>Z ?_) (fun h=>Z ?_)
 ·cases h
  simp only [go_sem]
 ·refine AF ?_
  refine AB h (fun h=>Z ?_) (fun h=>Z ?_)
  ·exact AT (IE a0 a1 a2 true _ h) [] []
  ·exact AT (IE a0 a1 a2 (decide (a1=12)) _ h) [] []
theorem OU (a0 a1 a2 r) (h:F3 a0 a1 a2=some r):AC Tryz.prog 243 [.int .i64 a0,.int .i64 a1,.int .i64 a2] (.bool r):=by
 unfold F3 at h
 refine acF Tryz.func243 mixed (h:=Z ?_)
 replace h:=AD h; obtain⟨u,w,h⟩:=h
 refine AI (BN _ _ _ _ w) (Z ?_)
 refine AB h (fun h=>Z ?_) (fun h=>Z ?_)
 ·exact AT (IF a0 a1 a2 true _ h) [] []
 ·replace h:=AD h; obtain⟨y,q,h⟩:=h
  refine AI (Gk _ _ _ q) (Z ?_)
  exact AT (IF a0 a1 a2 (!y) _ h) [] []
theorem DJ (u:Bool) (r:Bool) (h:CK u=some r):Aw Tryz.prog Tryz.f244 [1,0,1,0,1] (.bool r) ⟨[(4,.bool u)],[],[]⟩:=by
 unfold CK at h
 refine AN rfl rfl (Z ?_)
 refine AB h (fun h=>Z ?_) (fun h=>Z ?_)
 ·cases h
  simp only [go_sem]
 ·refine AF ?_
  cases h
  simp only [go_sem]
theorem OV (a0 r) (h:F4 a0=some r):AC Tryz.prog 244 [.int .i64 a0] (.bool r):=by
 unfold F4 at h
 refine acF Tryz.func244 mixed (h:=Z ?_)
 refine AB h (fun h=>Z ?_) (fun h=>Z ?_)
 ·exact AT (DJ (decide (a0=3)) _ h) [] []
 ·refine AB h (fun h=>Z ?_) (fun h=>Z ?_)
  ·exact AT (DJ (decide (a0=7)) _ h) [] []
  ·refine AB h (fun h=>Z ?_) (fun h=>Z ?_)
   ·exact AT (DJ (decide (a0=8)) _ h) [] []
   ·refine AB h (fun h=>Z ?_) (fun h=>Z ?_)
    ·exact AT (DJ (decide (a0=10)) _ h) [] []
    ·exact AT (DJ (decide (a0=11)) _ h) [] []
theorem J5 (a1:Int) (a2:Int) (a3:Int) (u:Bool) (r:Int) (h:F5 a1 a2 a3 u=some r):Aw Tryz.prog Tryz.f224 [1,0,1,0,1,1,1,0,0,1] (.int .i64 r) ⟨[(1,.int .i64 a1),(2,.int .i64 a2),(3,.int .i64 a3),(20,.bool u)],[],[]⟩:=by
 unfold F5 at h
 refine AN rfl rfl (Z ?_)
 refine AB h (fun h=>Z ?_) (fun h=>Z ?_)
 ·cases h
  simp only [go_sem]
 ·refine AF ?_
  replace h:=AD h; obtain⟨w,y,h⟩:=h
  refine AI (OU _ _ _ _ y) (Z ?_)
  refine AF ?_
  refine AB h (fun h=>Z ?_) (fun h=>Z ?_)
  ·cases h
   simp only [go_sem]
  ·refine AF ?_
   cases h
   simp only [go_sem]
theorem J6 (u:Bool) (r:Int) (h:F6 u=some r):Aw Tryz.prog Tryz.f224 [1,0,1,0,1,1,1,1,1,0,1] (.int .i64 r) ⟨[(33,.bool u)],[],[]⟩:=by
 unfold F6 at h
 refine AN rfl rfl (Z ?_)
 refine AB h (fun h=>Z ?_) (fun h=>Z ?_)
 ·cases h
  simp only [go_sem]
 ·refine AF ?_
  cases h
  simp only [go_sem]
theorem J7 (a2:Int) (u:Bool) (r:Int) (h:F7 a2 u=some r):Aw Tryz.prog Tryz.f224 [1,0,1,0,1,1,1,1,1,1,1,0,1,0,1] (.int .i64 r) ⟨[(36,.int .i64 a2),(37,.bool u)],[],[]⟩:=by
 unfold F7 at h
 refine AN rfl rfl (Z ?_)
 refine AB h (fun h=>Z ?_) (fun h=>Z ?_)
 ·cases h
  simp only [go_sem]
 ·refine AB h (fun h=>Z ?_) (fun h=>Z ?_)
  ·cases h
   simp only [go_sem]
  ·refine AF ?_
   cases h
   simp only [go_sem]
theorem HQ (a0 a1 a2 a3 r) (h:Fi a0 a1 a2 a3=some r):AC Tryz.prog 224 [.int .i64 a0,.int .i64 a1,.int .i64 a2,.int .i64 a3] (.int .i64 r):=by
 unfold Fi at h
 refine acF Tryz.func224 mixed (h:=Z ?_)
 refine AB h (fun h=>Z ?_) (fun h=>Z ?_)
 ·cases h
  simp only [go_sem]
 ·refine AB h (fun h=>Z ?_) (fun h=>Z ?_)
  ·refine AB h (fun h=>Z ?_) (fun h=>Z ?_)
   ·exact AT (J5 a1 a2 a3 (decide (a1=a3)) _ h) [] []
   ·exact AT (J5 a1 a2 a3 false _ h) [] []
  ·refine AB h (fun h=>Z ?_) (fun h=>Z ?_)
   ·refine AB h (fun h=>Z ?_) (fun h=>Z ?_)
    ·exact AT (J6 (decide (a1=a3)) _ h) [] []
    ·exact AT (J6 false _ h) [] []
   ·refine AB h (fun h=>Z ?_) (fun h=>Z ?_)
    ·refine AB h (fun h=>Z ?_) (fun h=>Z ?_)
     ·exact AT (J7 a2 (decide (a2=7)) _ h) [] []
     ·exact AT (J7 a2 (decide (a2=8)) _ h) [] []
    ·refine AB h (fun h=>Z ?_) (fun h=>Z ?_)
     ·refine AB h (fun h=>Z ?_) (fun h=>Z ?_)
      ·cases h
       simp only [go_sem]
      ·refine AF ?_
       cases h
       simp only [go_sem]
     ·refine AB h (fun h=>Z ?_) (fun h=>Z ?_)
      ·replace h:=AD h; obtain⟨u,w,h⟩:=h
       refine AI (OV _ _ w) (Z ?_)
       refine AF ?_
       refine AB h (fun h=>Z ?_) (fun h=>Z ?_)
       ·cases h
        simp only [go_sem]
       ·refine AF ?_
        cases h
        simp only [go_sem]
      ·refine AF ?_
       cases h
       simp only [go_sem]
theorem Ns (a0 a1 a2 a3 r) (h:FJ a0 a1 a2 a3=some r):AC Tryz.prog 190 [.int .i64 a0,.int .i64 a1,.int .i64 a2,.int .i64 a3] (.int .i64 r):=by
 unfold FJ at h
 refine acF Tryz.func190 mixed (h:=Z ?_)
 replace h:=AD h; obtain⟨u,w,h⟩:=h
 refine AI (NE _ _ _ _ _ w) (Z ?_)
 refine AF ?_
 refine AB h (fun h=>Z ?_) (fun h=>Z ?_)
 ·cases h
  simp only [go_sem]
 ·refine AF ?_
  replace h:=AD h; obtain⟨y,q,h⟩:=h
  refine AI (HQ _ _ _ _ _ q) (Z ?_)
  refine AF ?_
  refine AB h (fun h=>Z ?_) (fun h=>Z ?_)
  ·cases h
   simp only [go_sem]
  ·refine AF ?_
   replace h:=AD h; obtain⟨g,j,h⟩:=h
   refine AI (HQ _ _ _ _ _ j) (Z ?_)
   refine AF ?_
   refine AB h (fun h=>Z ?_) (fun h=>Z ?_)
   ·cases h
    simp only [go_sem]
   ·refine AF ?_
    cases h
    simp only [go_sem]
theorem Lq (a0 a1 a2 r) (h:Ek a0 a1 a2=some r):AC Tryz.prog 125 [.rop (Net.avs a0) 0,.int .i64 a1,.int .i64 a2] (.tup [.int .i64 r.1,.int .i64 r.2]):=by
 unfold Ek at h
 refine acF Tryz.func125 mixed (h:=Z ?_)
 replace h:=AD h; obtain⟨u,w,h⟩:=h
 refine AM w (Agent.ds_len _) (Z ?_)
 replace h:=AD h; obtain⟨y,q,h⟩:=h
 refine AM q (Agent.ds_len _) (Z ?_)
 refine AX [] .fin (by kernel_rfl) (Z ?_)
 replace h:=AD h; obtain⟨g,j,h⟩:=h
 refine AI (Ns _ _ _ _ _ j) (Z ?_)
 refine AF ?_
 refine AB h (fun h=>Z ?_) (fun h=>Z ?_)
 ·cases h
  simp only [go_sem]
 ·refine AF ?_
  cases h
  simp only [go_sem]
theorem Id (u:Int) (r:Int) (h:El u=some r):Aw Tryz.prog Tryz.f191 [1,1,1,1] (.int .i64 r) ⟨[(9,.int .i64 u)],[],[]⟩:=by
 unfold El at h
 refine AN rfl rfl (Z ?_)
 refine AB h (fun h=>Z ?_) (fun h=>Z ?_)
 ·cases h
  simp only [go_sem]
 ·refine AF ?_
  cases h
  simp only [go_sem]
theorem P9 (a0 a1 a2 a3 r) (h:Gw a0 a1 a2 a3=some r):AC Tryz.prog 191 [.int .i64 a0,.int .i64 a1,.int .i64 a2,.int .i64 a3] (.int .i64 r):=by
 unfold Gw at h
 refine acF Tryz.func191 mixed (h:=Z ?_)
 replace h:=AD h; obtain⟨u,w,h⟩:=h
 refine AI (NE _ _ _ _ _ w) (Z ?_)
 refine AF ?_
 refine AB h (fun h=>Z ?_) (fun h=>Z ?_)
 ·cases h
  simp only [go_sem]
 ·refine AF ?_
  replace h:=AD h; obtain⟨y,q,h⟩:=h
  refine AI (HQ _ _ _ _ _ q) (Z ?_)
  refine AF ?_
  refine AB h (fun h=>Z ?_) (fun h=>Z ?_)
  ·replace h:=AD h; obtain⟨g,j,h⟩:=h
   refine AI (HQ _ _ _ _ _ j) (Z ?_)
   exact AT (Id g _ h) [] []
  ·exact AT (Id y _ h) [] []
theorem Gb (a0:Agent) (a1:Agent) (u:Bool) (r:Int) (h:ET a0 a1 u=some r):Aw Tryz.prog Tryz.f126 [1,1,0,1] (.int .i64 r) ⟨[(0,.rop [.int .i64 a0.kind,.int .i64 a0.level,.int .i64 a0.value,.ro (List.map AY a0.data),.ro (List.map Port.ds a0.ports)] 0),(1,.rop [.int .i64 a1.kind,.int .i64 a1.level,.int .i64 a1.value,.ro (List.map AY a1.data),.ro (List.map Port.ds a1.ports)] 0),(52,.bool u)],[],[]⟩:=by
 unfold ET at h
 refine AN rfl rfl (Z ?_)
 refine AB h (fun h=>Z ?_) (fun h=>Z ?_)
 ·cases h
  simp only [go_sem]
 ·refine AF ?_
  refine AX [] .fin (by kernel_rfl) (Z ?_)
  replace h:=AD h; obtain⟨w,y,h⟩:=h
  refine AI (P9 _ _ _ _ _ y) (Z ?_)
  refine AF ?_
  cases h
  simp only [go_sem]
theorem Gc (a0:Agent) (a1:Agent) (u:Bool) (r:Int) (h:EU a0 a1 u=some r):Aw Tryz.prog Tryz.f126 [1,0,1] (.int .i64 r) ⟨[(0,.rop [.int .i64 a0.kind,.int .i64 a0.level,.int .i64 a0.value,.ro (List.map AY a0.data),.ro (List.map Port.ds a0.ports)] 0),(1,.rop [.int .i64 a1.kind,.int .i64 a1.level,.int .i64 a1.value,.ro (List.map AY a1.data),.ro (List.map Port.ds a1.ports)] 0),(28,.bool u)],[],[]⟩:=by
 unfold EU at h
 refine AN rfl rfl (Z ?_)
 refine AB h (fun h=>Z ?_) (fun h=>Z ?_)
 ·cases h
  simp only [go_sem]
 ·refine AF ?_
  refine AX [] .fin (by kernel_rfl) (Z ?_)
  refine AB h (fun h=>Z ?_) (fun h=>Z ?_)
  ·refine AB h (fun h=>Z ?_) (fun h=>Z ?_)
   ·exact AT (Gb a0 a1 (decide (((List.length a0.data:Nat):Int)≤a1.value)) _ h) [] []
   ·exact AT (Gb a0 a1 false _ h) [] []
  ·exact AT (Gb a0 a1 false _ h) [] []
theorem Ip (a0 a1 r) (h:FV a0 a1=some r):AC Tryz.prog 126 [.rop (Agent.avs a0) 0,.rop (Agent.avs a1) 0] (.int .i64 r):=by
 unfold FV at h
 refine acF Tryz.func126 mixed (h:=Z ?_)
 refine AX [] .fin (by kernel_rfl) (Z ?_)
 refine AB h (fun h=>Z ?_) (fun h=>Z ?_)
 ·refine AB h (fun h=>Z ?_) (fun h=>Z ?_)
  ·exact AT (Gc a0 a1 (decide (((List.length a1.data:Nat):Int)≤a0.value)) _ h) [] []
  ·exact AT (Gc a0 a1 false _ h) [] []
 ·exact AT (Gc a0 a1 false _ h) [] []
theorem OK (a0 a1 r) (h:F8 a0 a1=some r):AC Tryz.prog 105 [.int .i64 a0,.int .i64 a1] (.int .i64 r):=by
 unfold F8 at h
 refine acF Tryz.func105 mixed (h:=Z ?_)
 refine AB h (fun h=>Z ?_) (fun h=>Z ?_)
 ·cases h
  simp only [go_sem]
 ·refine AF ?_
  cases h
  simp only [go_sem]
theorem MR (n:Nat):(∀a0 u w r,CL n a0 u w=some r→Aw Tryz.prog Tryz.f188 [1,1,0,1,0] (.int .i64 r) ⟨[(0,.rop [.ro (List.map Agent.ds a0.agents)] 0),(3,.int .i64 u),(4,.int .i64 w)],[],[]⟩):=by
 induction n with
 |zero=>exact((fun _ _ _ _ h=>by rw [CL] at h; cases h))
 | succ n ih=>
  have ih0:=ih
  ·intro a0 u w r h
   rw [CL] at h
   refine AN rfl rfl (Z ?_)
   refine Ad (Z ?_)
   refine AB h (fun h=>Z ?_) (fun h=>Z ?_)
   ·refine AF ?_
    replace h:=AD h; obtain⟨y,q,h⟩:=h
    refine AM q (Agent.ds_len _) (Z ?_)
    replace h:=AD h; obtain⟨g,j,h⟩:=h
    refine AI (OK _ _ _ j) (Z ?_)
    refine AF ?_
    exact lpF (ih0 a0 g (IntKind.i64.wrap (w+1)) _ h) [] []
   ·refine AF ?_
    cases h
    simp only [go_sem]
theorem OW (a0 r) (h:HM a0=some r):AC Tryz.prog 188 [.rop (Net.avs a0) 0] (.int .i64 r):=by
 unfold HM at h
 refine acF Tryz.func188 mixed (h:=Z ?_)
 exact loF (MR fuel a0 0 0 _ h) [] []
theorem Dz (a1:Int) (u:Int) (w:Int) (y:Int) (r:Int × Int) (h:C1 a1 u w y=some r):Aw Tryz.prog Tryz.f189 [1,1,1,1,1] (.tup [.int .i64 r.1,.int .i64 r.2]) ⟨[(1,.int .i64 a1),(6,.int .i64 u),(7,.int .i64 w),(8,.int .i64 y)],[],[]⟩:=by
 unfold C1 at h
 refine AN rfl rfl (Z ?_)
 replace h:=AD h; obtain⟨q,g,h⟩:=h
 refine AI (BN _ _ _ _ g) (Z ?_)
 refine AF ?_
 refine AB h (fun h=>Z ?_) (fun h=>Z ?_)
 ·cases h
  simp only [go_sem]
 ·refine AF ?_
  cases h
  simp only [go_sem]
theorem K9 (a0:Int) (a1:Int) (u:Bool) (r:Int × Int) (h:Gx a0 a1 u=some r):Aw Tryz.prog Tryz.f189 [1,1,1,1,0,1,0,1] (.tup [.int .i64 r.1,.int .i64 r.2]) ⟨[(1,.int .i64 a1),(6,.int .i64 0),(7,.int .i64 0),(9,.int .i64 a0),(10,.bool u)],[],[]⟩:=by
 unfold Gx at h
 refine AN rfl rfl (Z ?_)
 refine AB h (fun h=>Z ?_) (fun h=>Z ?_)
 ·exact AT (Dz a1 0 0 (-2) _ h) [] []
 ·refine AB h (fun h=>Z ?_) (fun h=>Z ?_)
  ·exact AT (Dz a1 0 3 a1 _ h) [] []
  ·refine AB h (fun h=>Z ?_) (fun h=>Z ?_)
   ·exact AT (Dz a1 0 3 (IntKind.i64.wrap (a1 - 2)) _ h) [] []
   ·refine AB h (fun h=>Z ?_) (fun h=>Z ?_)
    ·exact AT (Dz a1 0 0 (-1) _ h) [] []
    ·refine AB h (fun h=>Z ?_) (fun h=>Z ?_)
     ·exact AT (Dz a1 0 3 (IntKind.i64.wrap (a1 - 1)) _ h) [] []
     ·refine AB h (fun h=>Z ?_) (fun h=>Z ?_)
      ·exact AT (Dz a1 2 600 (IntKind.i64.wrap (a1 - 2)) _ h) [] []
      ·cases h
       simp only [go_sem]
theorem UK (a0 a1 r) (h:Kn a0 a1=some r):AC Tryz.prog 189 [.int .i64 a0,.int .i64 a1] (.tup [.int .i64 r.1,.int .i64 r.2]):=by
 unfold Kn at h
 refine acF Tryz.func189 mixed (h:=Z ?_)
 refine AB h (fun h=>Z ?_) (fun h=>Z ?_)
 ·exact AT (K9 a0 a1 (decide (a0=1)) _ h) [] []
 ·exact AT (K9 a0 a1 (decide (a0=2)) _ h) [] []
theorem Ea (u:Int) (w:Int) (r:Int × Int) (h:CZ u w=some r):Aw Tryz.prog Tryz.f123 [1,1,1,1,1,1,1] (.tup [.int .i64 r.1,.int .i64 r.2]) ⟨[(12,.int .i64 u),(13,.int .i64 w)],[],[]⟩:=by
 unfold CZ at h
 refine AN rfl rfl (Z ?_)
 replace h:=AD h; obtain⟨y,q,h⟩:=h
 refine AI (UK _ _ _ q) (Z ?_)
 refine AF ?_
 cases h
 simp only [go_sem]
theorem Ie (a0:List Net) (u:Agent) (w:Agent) (y:Int) (q:Bool) (r:Int × Int) (h:Em a0 u w y q=some r):Aw Tryz.prog Tryz.f123 [1,1,1,1,1,1,0,1,0,1,1,1] (.tup [.int .i64 r.1,.int .i64 r.2]) ⟨[(0,.ro (List.map Net.ds a0)),(10,.rop [.int .i64 u.kind,.int .i64 u.level,.int .i64 u.value,.ro (List.map AY u.data),.ro (List.map Port.ds u.ports)] 0),(11,.rop [.int .i64 w.kind,.int .i64 w.level,.int .i64 w.value,.ro (List.map AY w.data),.ro (List.map Port.ds w.ports)] 0),(12,.int .i64 y),(13,.int .i64 0),(38,.int .i64 y),(41,.bool q)],[],[]⟩:=by
 unfold Em at h
 refine AN rfl rfl (Z ?_)
 refine AB h (fun h=>Z ?_) (fun h=>Z ?_)
 ·exact AT (Ea y (IntKind.i64.wrap (((List.length w.ports:Nat):Int) - 1)) _ h) [] []
 ·refine AB h (fun h=>Z ?_) (fun h=>Z ?_)
  ·replace h:=AD h; obtain⟨g,j,h⟩:=h
   refine AI (IG _ _ j) (Z ?_)
   exact AT (Ea y g _ h) [] []
  ·refine AB h (fun h=>Z ?_) (fun h=>Z ?_)
   ·refine AB h (fun h=>Z ?_) (fun h=>Z ?_)
    ·cases h
     simp only [go_sem]
    ·refine AF ?_
     replace h:=AD h; obtain⟨k,b,h⟩:=h
     refine AM b (Net.ds_len _) (Z ?_)
     refine AX [] .fin (by kernel_rfl) (Z ?_)
     replace h:=AD h; obtain⟨d,c,h⟩:=h
     refine AM c (Net.ds_len _) (Z ?_)
     replace h:=AD h; obtain⟨e,i,h⟩:=h
     refine AI (OW _ _ i) (Z ?_)
     refine AF ?_
     refine AB h (fun h=>Z ?_) (fun h=>Z ?_)
     ·cases h
      simp only [go_sem]
     ·exact AT (Ea y ((List.length k.agents:Nat):Int) _ h) [] []
   ·exact AT (Ea y 0 _ h) [] []
theorem QA (a0 a1 a2 a3 r) (h:Gy a0 a1 a2 a3=some r):AC Tryz.prog 123 [.ro (List.map Net.ds a0),.rop (Net.avs a1) 0,.int .i64 a2,.int .i64 a3] (.tup [.int .i64 r.1,.int .i64 r.2]):=by
 unfold Gy at h
 refine acF Tryz.func123 mixed (h:=Z ?_)
 replace h:=AD h; obtain⟨u,w,h⟩:=h
 refine AI (Lq _ _ _ _ w) (Z ?_)
 refine AF ?_
 replace h:=AD h; obtain⟨y,q,h⟩:=h
 refine AM q (Agent.ds_len _) (Z ?_)
 replace h:=AD h; obtain⟨g,j,h⟩:=h
 refine AM j (Agent.ds_len _) (Z ?_)
 replace h:=AD h; obtain⟨k,b,h⟩:=h
 refine AI (Ip _ _ _ b) (Z ?_)
 refine AF ?_
 refine AB h (fun h=>Z ?_) (fun h=>Z ?_)
 ·cases h
  simp only [go_sem]
 ·refine AB h (fun h=>Z ?_) (fun h=>Z ?_)
  ·exact AT (Ie a0 y g k (decide (k=3)) _ h) [] []
  ·exact AT (Ie a0 y g k (decide (k=4)) _ h) [] []
theorem OX (n:Nat):(∀a0 u w r,Cr n a0 u w=some r→Aw Tryz.prog Tryz.f124 [1,1,0,1,0] (.int .i64 r) ⟨[(0,.rop [.ro (List.map Agent.ds a0.agents)] 0),(3,.int .i64 u),(4,.int .i64 w)],[],[]⟩):=by
 induction n with
 |zero=>exact((fun _ _ _ _ h=>by rw [Cr] at h; cases h))
 | succ n ih=>
  have ih0:=ih
  ·intro a0 u w r h
   rw [Cr] at h
   refine AN rfl rfl (Z ?_)
   refine Ad (Z ?_)
   refine AB h (fun h=>Z ?_) (fun h=>Z ?_)
   ·refine AF ?_
    replace h:=AD h; obtain⟨y,q,h⟩:=h
    refine AM q (Agent.ds_len _) (Z ?_)
    refine AB h (fun h=>Z ?_) (fun h=>Z ?_)
    ·refine AF ?_
     exact lpF (ih0 a0 (IntKind.i64.wrap (u+1)) (IntKind.i64.wrap (w+1)) _ h) [] []
    ·refine AF ?_
     exact lpF (ih0 a0 u (IntKind.i64.wrap (w+1)) _ h) [] []
   ·refine AF ?_
    cases h
    simp only [go_sem]
theorem NF (a0 r) (h:He a0=some r):AC Tryz.prog 124 [.rop (Net.avs a0) 0] (.int .i64 r):=by
 unfold He at h
 refine acF Tryz.func124 mixed (h:=Z ?_)
 exact loF (OX fuel a0 0 0 _ h) [] []
theorem AP (a0 a1 r) (h:AZ a0 a1=some r):AC Tryz.prog 128 [.int .i64 a0,.int .i64 a1] (.agg (Port.rv r)):=by
 unfold AZ at h
 refine acF Tryz.func128 mixed (h:=Z ?_)
 refine AF ?_
 cases h
 simp only [go_sem]
theorem QB (n:Nat):(∀a0 a1 a2 a3 u w y r,D3 n a0 a1 a2 a3 u w y=some r→DB Tryz.prog Tryz.f130 [1,1,0,1,0] (.int .i64 r.1) [(1501,⟨List.map Agent.ds r.2.agents,some 5,0,false⟩)] [(1,[.own 1501])] ⟨[(0,.box 1 0),(13,.box 1000001500 0),(14,.int .i64 y)],[(1000001000,some ⟨List.map Agent.ds a0.agents,some 5,0,false⟩),(1000001001,some ⟨List.map AY u,some 1,0,false⟩),(1000001002,some ⟨List.map Port.ds w,some 2,0,false⟩)],[(1,some [.own 1000001000]),(1000001500,some [.int .i64 a1,.int .i64 a2,.int .i64 a3,.own 1000001001,.own 1000001002])]⟩):=by
 induction n with
 |zero=>exact((fun _ _ _ _ _ _ _ _ h=>by rw [D3] at h; cases h))
 | succ n ih=>
  have ih0:=ih
  ·intro a0 a1 a2 a3 u w y r h
   rw [D3] at h
   refine Ay rfl rfl (Z ?_)
   refine Ad (Z ?_)
   refine AB h (fun h=>Z ?_) (fun h=>Z ?_)
   ·refine AF ?_
    replace h:=AD h; obtain⟨q,g,h⟩:=h
    have hq_:=BH g
    obtain⟨hv6004a,hv6004b⟩:=hq_
    refine Dt false (Z ?_)
    refine BO (by refine⟨?_,?_⟩ <;> (try simp only [List.length_map,List.length_append,List.length_cons,List.length_nil] at*) <;> (try unfold maxLen) <;> omega) (Z ?_)
    refine BP (List.map Port.ds q) (by rw [← hv6004b]; simp only [List.map_append,List.map_cons,List.map_nil,List.nil_append,List.append_nil,go_sem,Port.ds_eq]) (Z ?_)
    refine AF ?_
    exact lpG (ih0 a0 a1 a2 a3 u q (IntKind.i64.wrap (y - 1)) _ h) [(1000001000,1000001000),(1000001001,1000001001),(1000001002,96064)] [(1,1),(1000001500,1000001500)]
   ·refine AF ?_
    refine AX [false,false,false,false,false,false,false,true,true,true,true] (Tr.sq [7,8,9,10] .fin) (by kernel_rfl) (Z ?_)
    replace h:=AD h; obtain⟨j,k,h⟩:=h
    have hq_:=BH k
    obtain⟨hv7007a,hv7007b⟩:=hq_
    refine Dt false (Z ?_)
    refine BO (by refine⟨?_,?_⟩ <;> (try simp only [List.length_map,List.length_append,List.length_cons,List.length_nil] at*) <;> (try unfold maxLen) <;> omega) (Z ?_)
    refine BP (List.map Agent.ds j) (by rw [← hv7007b]; simp only [List.map_append,List.map_cons,List.map_nil,List.nil_append,List.append_nil,go_sem,Agent.ds_eq]) (Z ?_)
    refine AF ?_
    cases h
    refine BD (.done _) [(1501,112112)] [(1,1)] ?_
    simp only [go_sem]
theorem Dc (a0 a1 a2 a3 a4 a5 r) (h:CP a0 a1 a2 a3 a4 a5=some r):AG Tryz.prog 130 [.box 1 0,.int .i64 a1,.int .i64 a2,.int .i64 a3,.ro (List.map AY a4),.int .i64 a5] [(1001,⟨List.map Agent.ds a0.agents,some 5,0,false⟩)] [(1,[.own 1001])] (.int .i64 r.1) [(1501,⟨List.map Agent.ds r.2.agents,some 5,0,false⟩)] [(1,[.own 1501])] :=by
 unfold CP at h
 refine agF Tryz.func130 mixed (h:=Z ?_)
 replace h:=AD h; obtain⟨u,w,h⟩:=h
 refine AI (LA _ _ w) (Z ?_)
 refine AF ?_
 refine DT (Gd rfl rfl (QB fuel a0 a1 a2 a3 u [] a5 _ h):) (.one ⟨_,.cell 2006 4 2000000000 (some 2) false _ (by simp only [go_sem]; rfl) (by rfl) (by simp only [go_sem]) (.done _),[(1000001000,1001),(1000001001,32064),(1000001002,2000000000)],[(1,1),(1000001500,2006)],?_⟩)
 simp only [go_sem]
 all_goals try rfl
theorem LB (n:Nat):(∀a2 u w y q r,Bm n a2 u w y q=some r→DB Tryz.prog Tryz.f129 [1,1,1,1,1,1,1,1,1,0] (.tup []) [(1501,⟨List.map Agent.ds r.agents,some 5,0,false⟩)] [(1,[.own 1501])] ⟨[(0,.box 1 0),(2,.int .i64 a2),(8,.int .i64 ((List.length u.ports:Nat):Int)),(10,.int .i64 w.1),(13,.int .i64 q)],[(1000002000,some ⟨List.map Agent.ds y,some 5,0,false⟩)],[(1,some [.own 1000002000])]⟩):=by
 induction n with
 |zero=>exact((fun _ _ _ _ _ _ h=>by rw [Bm] at h; cases h))
 | succ n ih=>
  have ih0:=ih
  ·intro a2 u w y q r h
   rw [Bm] at h
   refine Ay rfl rfl (Z ?_)
   refine Ad (Z ?_)
   refine AB h (fun h=>Z ?_) (fun h=>Z ?_)
   ·refine AF ?_
    replace h:=AD h; obtain⟨g,j,h⟩:=h
    refine AI (AP _ _ _ j) (Z ?_)
    replace h:=AD h; obtain⟨k,b,h⟩:=h
    refine AI (AP _ _ _ b) (Z ?_)
    replace h:=AD h; obtain⟨d,c,h⟩:=h
    refine caG ⟨[],[(1001,1000002000)],[(1,1,0)],[(1501,272128)],[],true⟩ (CU _ _ _ _ c) (Z ?_)
    refine AF ?_
    exact lpG (ih0 a2 u w d.agents (IntKind.i64.wrap (q+1)) _ h) [(1000002000,272128)] [(1,1)]
   ·cases h
    refine BD (.done _) [(1501,1000002000)] [(1,1)] ?_
    simp only [go_sem]
theorem LC (n:Nat):(∀a1 a2 u w y q g j r,BW n a1 a2 u w y q g j=some r→DB Tryz.prog Tryz.f129 [1,1,1,1,1,0,1,0] (.tup []) [(1501,⟨List.map Agent.ds r.agents,some 5,0,false⟩)] [(1,[.own 1501])] ⟨[(0,.box 1 0),(1,.int .i64 a1),(2,.int .i64 a2),(6,.int .i64 u.level),(8,.int .i64 ((List.length w.ports:Nat):Int)),(9,.int .i64 y.1),(10,.int .i64 q.1),(11,.int .i64 j)],[(1000001000,some ⟨List.map Agent.ds g,some 5,0,false⟩)],[(1,some [.own 1000001000])]⟩):=by
 induction n with
 |zero=>exact((fun _ _ _ _ _ _ _ _ _ h=>by rw [BW] at h; cases h))
 | succ n ih=>
  have ih0:=ih
  ·intro a1 a2 u w y q g j r h
   rw [BW] at h
   refine Ay rfl rfl (Z ?_)
   refine Ad (Z ?_)
   refine AB h (fun h=>Z ?_) (fun h=>Z ?_)
   ·refine AF ?_
    replace h:=AD h; obtain⟨k,b,h⟩:=h
    refine caG ⟨[],[(1001,1000001000)],[(1,1,0)],[(1501,144032)],[],true⟩ (Dc _ _ _ _ _ _ _ b) (Z ?_)
    refine AF ?_
    replace h:=AD h; obtain⟨d,c,h⟩:=h
    refine AI (AP _ _ _ c) (Z ?_)
    replace h:=AD h; obtain⟨e,i,h⟩:=h
    refine AI (AP _ _ _ i) (Z ?_)
    replace h:=AD h; obtain⟨l,t,h⟩:=h
    refine caG ⟨[],[(1001,144032)],[(1,1,0)],[(1501,160096)],[],true⟩ (E7 _ _ _ _ t) (Z ?_)
    refine AF ?_
    replace h:=AD h; obtain⟨s,o,h⟩:=h
    refine AI (AP _ _ _ o) (Z ?_)
    replace h:=AD h; obtain⟨z,u1,h⟩:=h
    refine AI (AP _ _ _ u1) (Z ?_)
    replace h:=AD h; obtain⟨u2,u3,h⟩:=h
    refine caG ⟨[],[(1001,160096)],[(1,1,0)],[(1501,176096)],[],true⟩ (E7 _ _ _ _ u3) (Z ?_)
    refine AF ?_
    exact lpG (ih0 a1 a2 u w y q u2.agents (IntKind.i64.wrap (j+1)) _ h) [(1000001000,176096)] [(1,1)]
   ·refine AF ?_
    replace h:=AD h; obtain⟨u4,u5,h⟩:=h
    refine AI (AP _ _ _ u5) (Z ?_)
    replace h:=AD h; obtain⟨u6,u7,h⟩:=h
    refine AI (AP _ _ _ u7) (Z ?_)
    replace h:=AD h; obtain⟨u8,u9,h⟩:=h
    refine caG ⟨[],[(1001,1000001000)],[(1,1,0)],[(1501,192080)],[],true⟩ (CU _ _ _ _ u9) (Z ?_)
    refine AF ?_
    replace h:=AD h; obtain⟨u10,u11,h⟩:=h
    refine AI (AP _ _ _ u11) (Z ?_)
    replace h:=AD h; obtain⟨u12,u13,h⟩:=h
    refine AI (AP _ _ _ u13) (Z ?_)
    replace h:=AD h; obtain⟨u14,u15,h⟩:=h
    refine caG ⟨[],[(1001,192080)],[(1,1,0)],[(1501,208080)],[],true⟩ (CU _ _ _ _ u15) (Z ?_)
    refine AF ?_
    exact loG (LB fuel a2 w q u14.agents 1 _ h) [(1000002000,208080)] [(1,1)]
theorem NG (a0 a1 a2 r) (h:En a0 a1 a2=some r):AG Tryz.prog 129 [.box 1 0,.int .i64 a1,.int .i64 a2] [(1001,⟨List.map Agent.ds a0.agents,some 5,0,false⟩)] [(1,[.own 1001])] (.tup []) [(1501,⟨List.map Agent.ds r.agents,some 5,0,false⟩)] [(1,[.own 1501])] :=by
 unfold En at h
 refine agF Tryz.func129 mixed (h:=Z ?_)
 replace h:=AD h; obtain⟨u,w,h⟩:=h
 refine AM w (Agent.ds_len _) (Z ?_)
 refine Ai (AW w) (Z ?_)
 replace h:=AD h; obtain⟨y,q,h⟩:=h
 refine AM q (Agent.ds_len _) (Z ?_)
 replace h:=AD h; obtain⟨g,j,h⟩:=h
 refine Kg (by simp only [AW q,Agent.ds_eq,go_sem,Nat.reduceEqDiff,reduceIte] <;> rfl) (C8 _ _ j) (Z ?_)
 refine AF ?_
 replace h:=AD h; obtain⟨k,b,h⟩:=h
 refine caG ⟨[],[(1001,1001)],[(1,1,0)],[(1501,64160)],[],false⟩ (Dc _ _ _ _ _ _ _ b) (Z ?_)
 refine AF ?_
 replace h:=AD h; obtain⟨d,c,h⟩:=h
 refine caG ⟨[],[(1001,64160)],[(1,1,0)],[(1501,80160)],[],false⟩ (Dc _ _ _ _ _ _ _ c) (Z ?_)
 refine AF ?_
 exact loG (LC fuel a1 a2 u g k d d.2.agents 1 _ h) [(1000001000,80160)] [(1,1)]
theorem Fp (a0 r) (h:FK a0=some r):AC Tryz.prog 225 [.int .i64 a0] (.int .i64 r):=by
 unfold FK at h
 refine acF Tryz.func225 mixed (h:=Z ?_)
 cases h
 simp only [go_sem]
theorem NH (a0 r) (h:I3 a0=some r):AC Tryz.prog 226 [.bool a0] (.int .i64 r):=by
 unfold I3 at h
 refine acF Tryz.func226 mixed (h:=Z ?_)
 refine AB h (fun h=>Z ?_) (fun h=>Z ?_)
 ·cases h
  simp only [go_sem]
 ·refine AF ?_
  cases h
  simp only [go_sem]
theorem SS (a0 a1 a2 r) (h:I4 a0 a1 a2=some r):AC Tryz.prog 194 [.int .i64 a0,.int .i64 a1,.int .i64 a2] (.int .i64 r):=by
 unfold I4 at h
 refine acF Tryz.func194 mixed (h:=Z ?_)
 replace h:=AD h; obtain⟨u,w,h⟩:=h
 refine AI (Fp _ _ w) (Z ?_)
 refine AF ?_
 replace h:=AD h; obtain⟨y,q,h⟩:=h
 refine AI (Fp _ _ q) (Z ?_)
 refine AF ?_
 refine AB h (fun h=>Z ?_) (fun h=>Z ?_)
 ·replace h:=AD h; obtain⟨g,j,h⟩:=h
  refine AI (Fp _ _ j) (Z ?_)
  refine AF ?_
  cases h
  simp only [go_sem]
 ·refine AB h (fun h=>Z ?_) (fun h=>Z ?_)
  ·replace h:=AD h; obtain⟨k,b,h⟩:=h
   refine AI (Fp _ _ b) (Z ?_)
   refine AF ?_
   cases h
   simp only [go_sem]
  ·refine AB h (fun h=>Z ?_) (fun h=>Z ?_)
   ·replace h:=AD h; obtain⟨d,c,h⟩:=h
    refine AI (Fp _ _ c) (Z ?_)
    refine AF ?_
    cases h
    simp only [go_sem]
   ·refine AB h (fun h=>Z ?_) (fun h=>Z ?_)
    ·refine AB h (fun h=>Z ?_) (fun h=>Z ?_)
     ·cases h
      simp only [go_sem]
     ·refine AF ?_
      replace h:=AD h; obtain⟨e,i,h⟩:=h
      refine BO (V3 i) (Z ?_)
      replace h:=AD h; obtain⟨l,t,h⟩:=h
      refine AI (Fp _ _ t) (Z ?_)
      refine AF ?_
      cases h
      simp only [go_sem]
    ·refine AB h (fun h=>Z ?_) (fun h=>Z ?_)
     ·replace h:=AD h; obtain⟨s,o,h⟩:=h
      refine AI (NH _ _ o) (Z ?_)
      refine AF ?_
      cases h
      simp only [go_sem]
     ·refine AB h (fun h=>Z ?_) (fun h=>Z ?_)
      ·replace h:=AD h; obtain⟨z,u1,h⟩:=h
       refine AI (NH _ _ u1) (Z ?_)
       refine AF ?_
       cases h
       simp only [go_sem]
      ·refine AF ?_
       cases h
       simp only [go_sem]
theorem OY (a0 a1 a2 r) (h:E3 a0 a1 a2=some r):AG Tryz.prog 132 [.box 1 0,.int .i64 a1,.int .i64 a2] [(1001,⟨List.map Agent.ds a0.agents,some 5,0,false⟩)] [(1,[.own 1001])] (.tup []) [(1501,⟨List.map Agent.ds r.agents,some 5,0,false⟩)] [(1,[.own 1501])] :=by
 unfold E3 at h
 refine agF Tryz.func132 mixed (h:=Z ?_)
 replace h:=AD h; obtain⟨u,w,h⟩:=h
 refine AM w (Agent.ds_len _) (Z ?_)
 replace h:=AD h; obtain⟨y,q,h⟩:=h
 refine Kg (by simp only [AW w,Agent.ds_eq,go_sem,Nat.reduceEqDiff,reduceIte] <;> rfl) (C8 _ _ q) (Z ?_)
 refine AF ?_
 replace h:=AD h; obtain⟨g,j,h⟩:=h
 refine AM j (Agent.ds_len _) (Z ?_)
 refine Ai (AW j) (Z ?_)
 refine AB h (fun h=>Z ?_) (fun h=>Z ?_)
 ·refine AX [false,false,false,false,false,false,false,false,false,true,true] (Tr.sq [9,10] .fin) (by kernel_rfl) (Z ?_)
  replace h:=AD h; obtain⟨k,b,h⟩:=h
  refine AM b rfl (Z ?_)
  refine Ai (AW b) (Z ?_)
  replace h:=AD h; obtain⟨d,c,h⟩:=h
  refine AI (SS _ _ _ _ c) (Z ?_)
  replace h:=AD h; obtain⟨e,i,h⟩:=h
  refine caG ⟨[],[(1001,1001)],[(1,1,0)],[(1501,64144)],[],true⟩ (Dc _ _ _ _ _ _ _ i) (Z ?_)
  refine AF ?_
  replace h:=AD h; obtain⟨l,t,h⟩:=h
  refine AI (AP _ _ _ t) (Z ?_)
  replace h:=AD h; obtain⟨s,o,h⟩:=h
  refine AI (AP _ _ _ o) (Z ?_)
  replace h:=AD h; obtain⟨z,u1,h⟩:=h
  refine caG ⟨[],[(1001,64144)],[(1,1,0)],[(1501,80080)],[],true⟩ (CU _ _ _ _ u1) (Z ?_)
  refine AF ?_
  cases h
  refine BD (.done _) [(1501,80080)] [(1,1)] ?_
  simp only [go_sem]
 ·refine AF ?_
  replace h:=AD h; obtain⟨u2,u3,h⟩:=h
  refine caG ⟨[],[(1001,1001)],[(1,1,0)],[(1501,96112)],[],false⟩ (Dc _ _ _ _ _ _ _ u3) (Z ?_)
  refine AF ?_
  replace h:=AD h; obtain⟨u4,u5,h⟩:=h
  refine AI (AP _ _ _ u5) (Z ?_)
  replace h:=AD h; obtain⟨u6,u7,h⟩:=h
  refine AI (AP _ _ _ u7) (Z ?_)
  replace h:=AD h; obtain⟨u8,u9,h⟩:=h
  refine caG ⟨[],[(1001,96112)],[(1,1,0)],[(1501,112080)],[],true⟩ (CU _ _ _ _ u9) (Z ?_)
  refine AF ?_
  replace h:=AD h; obtain⟨u10,u11,h⟩:=h
  refine AI (AP _ _ _ u11) (Z ?_)
  replace h:=AD h; obtain⟨u12,u13,h⟩:=h
  refine AI (AP _ _ _ u13) (Z ?_)
  replace h:=AD h; obtain⟨u14,u15,h⟩:=h
  refine caG ⟨[],[(1001,112080)],[(1,1,0)],[(1501,128080)],[],true⟩ (CU _ _ _ _ u15) (Z ?_)
  cases h
  refine BD (.done _) [(1501,128080)] [(1,1)] ?_
  simp only [go_sem]
theorem If (a0:Net) (a2:Int) (u:Agent) (w:Int) (r:Net) (h:Eo a0 a2 u w=some r):DB Tryz.prog Tryz.f133 [1,0,1,0,1,1] (.tup []) [(1501,⟨List.map Agent.ds r.agents,some 5,0,false⟩)] [(1,[.own 1501])] ⟨[(0,.box 1 0),(2,.int .i64 a2),(6,.box 1000000500 0),(7,.int .i64 w)],[(1000000000,some ⟨List.map Agent.ds a0.agents,some 5,0,false⟩),(1000000001,some ⟨List.map AY u.data,some 1,0,false⟩),(1000000002,some ⟨List.map Port.ds u.ports,some 2,0,false⟩)],[(1,some [.own 1000000000]),(1000000500,some [.int .i64 u.kind,.int .i64 u.level,.int .i64 u.value,.own 1000000001,.own 1000000002])]⟩:=by
 unfold Eo at h
 refine Ay rfl rfl (Z ?_)
 replace h:=AD h; obtain⟨y,q,h⟩:=h
 refine caG ⟨[],[(1001,1000000000)],[(1,1,0)],[(1501,96064)],[],true⟩ (Dc _ _ _ _ _ _ _ q) (Z ?_)
 refine AF ?_
 replace h:=AD h; obtain⟨g,j,h⟩:=h
 refine AI (AP _ _ _ j) (Z ?_)
 replace h:=AD h; obtain⟨k,b,h⟩:=h
 refine AI (AP _ _ _ b) (Z ?_)
 replace h:=AD h; obtain⟨d,c,h⟩:=h
 refine caG ⟨[],[(1001,96064)],[(1,1,0)],[(1501,112080)],[],true⟩ (CU _ _ _ _ c) (Z ?_)
 refine AF ?_
 cases h
 refine BD (.done _) [(1501,112080)] [(1,1)] ?_
 simp only [go_sem]
theorem NI (n:Nat):(∀a1 a2 u w y q g j r,Cb n a1 a2 u w y q g j=some r→DB Tryz.prog Tryz.f133 [1,1,1,1,1,0,1,0] (.tup []) [(1501,⟨List.map Agent.ds r.agents,some 5,0,false⟩)] [(1,[.own 1501])] ⟨[(0,.box 1 0),(1,.int .i64 a1),(2,.int .i64 a2),(6,.box 1000002500 0),(9,.int .i64 w),(11,.box 1000002501 0),(12,.int .i64 j)],[(1000002000,some ⟨List.map Agent.ds y,some 5,0,false⟩),(1000002001,some ⟨List.map AY u.data,some 1,0,false⟩),(1000002002,some ⟨List.map Port.ds u.ports,some 2,0,false⟩)],[(1,some [.own 1000002000]),(1000002500,some [.int .i64 u.kind,.int .i64 u.level,.int .i64 u.value,.own 1000002001,.own 1000002002]),(1000002501,some [.int .i64 q,.int .i64 g])]⟩):=by
 induction n with
 |zero=>exact((fun _ _ _ _ _ _ _ _ _ h=>by rw [Cb] at h; cases h))
 | succ n ih=>
  have ih0:=ih
  ·intro a1 a2 u w y q g j r h
   rw [Cb] at h
   refine Ay rfl rfl (Z ?_)
   refine Ad (Z ?_)
   refine AB h (fun h=>Z ?_) (fun h=>Z ?_)
   ·refine AF ?_
    replace h:=AD h; obtain⟨k,b,h⟩:=h
    refine caG ⟨[],[(1001,1000002000)],[(1,1,0)],[(1501,224048)],[],true⟩ (Dc _ _ _ _ _ _ _ b) (Z ?_)
    refine AF ?_
    refine AX [false,false,false,false,true] (Tr.sq [4] .fin) (by kernel_rfl) (Z ?_)
    replace h:=AD h; obtain⟨d,c,h⟩:=h
    refine AI (AP _ _ _ c) (Z ?_)
    replace h:=AD h; obtain⟨e,i,h⟩:=h
    refine caG ⟨[],[(1001,224048)],[(1,1,0)],[(1501,240064)],[],true⟩ (E7 _ _ _ _ i) (Z ?_)
    refine AF ?_
    replace h:=AD h; obtain⟨l,t,h⟩:=h
    refine AI (AP _ _ _ t) (Z ?_)
    replace h:=AD h; obtain⟨s,o,h⟩:=h
    refine AI (AP _ _ _ o) (Z ?_)
    replace h:=AD h; obtain⟨z,u1,h⟩:=h
    refine caG ⟨[],[(1001,240064)],[(1,1,0)],[(1501,256096)],[],true⟩ (CU _ _ _ _ u1) (Z ?_)
    refine AF ?_
    replace h:=AD h; obtain⟨u2,u3,h⟩:=h
    refine AI (AP _ _ _ u3) (Z ?_)
    refine AF ?_
    exact lpG (ih0 a1 a2 u w z.agents u2.agent u2.slot (IntKind.i64.wrap (j+1)) _ h) [(1000002000,256096),(1000002001,1000002001),(1000002002,1000002002)] [(1,1),(1000002500,1000002500),(1000002501,1000002501)]
   ·refine AF ?_
    refine AX [false,false,false,false,true] (Tr.sq [4] .fin) (by kernel_rfl) (Z ?_)
    replace h:=AD h; obtain⟨u4,u5,h⟩:=h
    refine AI (AP _ _ _ u5) (Z ?_)
    replace h:=AD h; obtain⟨u6,u7,h⟩:=h
    refine caG ⟨[],[(1001,1000002000)],[(1,1,0)],[(1501,288064)],[],true⟩ (CU _ _ _ _ u7) (Z ?_)
    cases h
    refine BD (.done _) [(1501,288064)] [(1,1)] ?_
    simp only [go_sem]
theorem QC (a0 a1 a2 r) (h:D4 a0 a1 a2=some r):AG Tryz.prog 133 [.box 1 0,.int .i64 a1,.int .i64 a2] [(1001,⟨List.map Agent.ds a0.agents,some 5,0,false⟩)] [(1,[.own 1001])] (.tup []) [(1501,⟨List.map Agent.ds r.agents,some 5,0,false⟩)] [(1,[.own 1501])] :=by
 unfold D4 at h
 refine agF Tryz.func133 mixed (h:=Z ?_)
 replace h:=AD h; obtain⟨u,w,h⟩:=h
 refine AM w (Agent.ds_len _) (Z ?_)
 replace h:=AD h; obtain⟨y,q,h⟩:=h
 refine Kg (by simp only [AW w,Agent.ds_eq,go_sem,Nat.reduceEqDiff,reduceIte] <;> rfl) (C8 _ _ q) (Z ?_)
 refine AF ?_
 refine AB h (fun h=>Z ?_) (fun h=>Z ?_)
 ·replace h:=AD h; obtain⟨g,j,h⟩:=h
  refine AM j rfl (Z ?_)
  refine Ai (AW j) (Z ?_)
  replace h:=AD h; obtain⟨k,b,h⟩:=h
  refine AM b (Agent.ds_len _) (Z ?_)
  refine Ai (AW b) (Z ?_)
  refine AB h (fun h=>Z ?_) (fun h=>Z ?_)
  ·replace h:=AD h; obtain⟨d,c,h⟩:=h
   refine AM c rfl (Z ?_)
   refine Ai (AW c) (Z ?_)
   exact A9 (If a0 a2 y d _ h) [(1000000000,1001),(1000000001,16096),(1000000002,16097)] [(1,1),(1000000500,1007)]
  ·exact A9 (If a0 a2 y g _ h) [(1000000000,1001),(1000000001,16096),(1000000002,16097)] [(1,1),(1000000500,1007)]
 ·refine AF ?_
  replace h:=AD h; obtain⟨e,i,h⟩:=h
  refine AM i (Agent.ds_len _) (Z ?_)
  replace h:=AD h; obtain⟨l,t,h⟩:=h
  refine Kg (by simp only [AW i,Agent.ds_eq,go_sem,Nat.reduceEqDiff,reduceIte] <;> rfl) (IG _ _ t) (Z ?_)
  refine AF ?_
  refine AX [false,false,false,false,false,false,false,false,false,false,false,false,false,false,false,true,true] (Tr.sq [15,16] .fin) (by kernel_rfl) (Z ?_)
  replace h:=AD h; obtain⟨s,o,h⟩:=h
  refine AM o (Agent.ds_len _) (Z ?_)
  refine Ai (AW o) (Z ?_)
  replace h:=AD h; obtain⟨z,u1,h⟩:=h
  refine AM u1 rfl (Z ?_)
  refine Ai (AW u1) (Z ?_)
  replace h:=AD h; obtain⟨u2,u3,h⟩:=h
  refine caG ⟨[],[(1001,1001)],[(1,1,0)],[(1501,144240)],[],true⟩ (Dc _ _ _ _ _ _ _ u3) (Z ?_)
  refine AF ?_
  replace h:=AD h; obtain⟨u4,u5,h⟩:=h
  refine AI (AP _ _ _ u5) (Z ?_)
  refine AF ?_
  exact loG (NI fuel a1 a2 y l u2.2.agents u4.agent u4.slot 1 _ h) [(1000002000,144240),(1000002001,16096),(1000002002,16097)] [(1,1),(1000002500,1007),(1000002501,10002)]
theorem Lh (n:Nat):(∀a0 a1 a3 u w y r,BG n a0 a1 a3 u w y=some r→DB Tryz.prog Tryz.f134 [1,1,0,1,0] (.tup []) [(1501,⟨List.map Agent.ds r.agents,some 5,0,false⟩)] [(1,[.own 1501])] ⟨[(0,.rop [.ro (List.map Agent.ds a0.agents)] 0),(1,.box 1 0),(3,.int .i64 a3),(8,.int .i64 u.level),(9,.int .i64 (IntKind.i64.wrap (((List.length a1.agents:Nat):Int) - 1))),(10,.int .i64 y)],[(1000006000,some ⟨List.map Agent.ds w,some 5,0,false⟩)],[(1,some [.own 1000006000])]⟩)∧
    (∀a0 a1 a3 w y u q g r,Cj n a0 a1 a3 w y u q g=some r→DB Tryz.prog Tryz.f134 [1,1,0,1,0,0,1,0,0,1,1] (.tup []) [(1501,⟨List.map Agent.ds r.agents,some 5,0,false⟩)] [(1,[.own 1501])] ⟨[(0,.rop [.ro (List.map Agent.ds a0.agents)] 0),(1,.box 1 0),(3,.int .i64 a3),(8,.int .i64 u.level),(9,.int .i64 (IntKind.i64.wrap (((List.length a1.agents:Nat):Int) - 1))),(10,.int .i64 y),(11,.box 1000007500 0)],[(1000007000,some ⟨List.map Agent.ds w,some 5,0,false⟩),(1000007001,some ⟨List.map AY q.data,some 1,0,false⟩),(1000007002,some ⟨List.map Port.ds q.ports,some 2,0,false⟩)],[(1,some [.own 1000007000]),(1000007500,some [.int .i64 q.kind,.int .i64 g,.int .i64 q.value,.own 1000007001,.own 1000007002])]⟩)∧
    (∀a0 a1 a3 w y g u q j k r,CM n a0 a1 a3 w y g u q j k=some r→DB Tryz.prog Tryz.f134 [1,1,0,1,0,0,1,0,0,1,1,0,1,0] (.tup []) [(1501,⟨List.map Agent.ds r.agents,some 5,0,false⟩)] [(1,[.own 1501])] ⟨[(0,.rop [.ro (List.map Agent.ds a0.agents)] 0),(1,.box 1 0),(3,.int .i64 a3),(8,.int .i64 u.level),(9,.int .i64 (IntKind.i64.wrap (((List.length a1.agents:Nat):Int) - 1))),(10,.int .i64 y),(11,.box 1000011500 0),(12,.int .i64 k)],[(1000011000,some ⟨List.map Agent.ds w,some 5,0,false⟩),(1000011001,some ⟨List.map AY q.data,some 1,0,false⟩),(1000011002,some ⟨List.map Port.ds j,some 2,0,false⟩)],[(1,some [.own 1000011000]),(1000011500,some [.int .i64 q.kind,.int .i64 g,.int .i64 q.value,.own 1000011001,.own 1000011002])]⟩):=by
 induction n with
 |zero=>exact⟨(fun _ _ _ _ _ _ _ h=>by rw [BG] at h; cases h),(fun _ _ _ _ _ _ _ _ _ h=>by rw [Cj] at h; cases h),(fun _ _ _ _ _ _ _ _ _ _ _ h=>by rw [CM] at h; cases h)⟩
 | succ n ih=>
  obtain⟨ih0,ih1,ih2⟩:=ih
  refine⟨?_,?_,?_⟩
  ·intro a0 a1 a3 u w y r h
   rw [BG] at h
   refine Ay rfl rfl (Z ?_)
   refine Ad (Z ?_)
   refine AB h (fun h=>Z ?_) (fun h=>Z ?_)
   ·refine AF ?_
    replace h:=AD h; obtain⟨b,d,h⟩:=h
    refine AM d (Agent.ds_len _) (Z ?_)
    replace h:=AD h; obtain⟨q,c,h⟩:=h
    refine AI (C8 _ _ c) (Z ?_)
    refine AF ?_
    replace h:=AD h; obtain⟨e,i,h⟩:=h
    refine AI (Io _ _ i) (Z ?_)
    refine AF ?_
    refine AB h (fun h=>Z ?_) (fun h=>Z ?_)
    ·exact A9 (ih1 a0 a1 a3 w y u q (IntKind.i64.wrap (q.level+u.level)) _ h) [(1000007000,1000006000),(1000007001,96096),(1000007002,96097)] [(1,1),(1000007500,6007)]
    ·exact A9 (ih1 a0 a1 a3 w y u q q.level _ h) [(1000007000,1000006000),(1000007001,96096),(1000007002,96097)] [(1,1),(1000007500,6007)]
   ·refine AF ?_
    replace h:=AD h; obtain⟨l,t,h⟩:=h
    refine AM t (Agent.ds_len _) (Z ?_)
    replace h:=AD h; obtain⟨s,o,h⟩:=h
    refine AM o (Port.ds_len _) (Z ?_)
    refine AF ?_
    replace h:=AD h; obtain⟨z,u1,h⟩:=h
    refine AI (AP _ _ _ u1) (Z ?_)
    replace h:=AD h; obtain⟨u2,u3,h⟩:=h
    refine AI (AP _ _ _ u3) (Z ?_)
    replace h:=AD h; obtain⟨u4,u5,h⟩:=h
    refine caG ⟨[],[(1001,1000006000)],[(1,1,0)],[(1501,240160)],[],true⟩ (E7 _ _ _ _ u5) (Z ?_)
    cases h
    refine BD (.done _) [(1501,240160)] [(1,1)] ?_
    simp only [go_sem]
  ·intro a0 a1 a3 w y u q g r h
   rw [Cj] at h
   refine Ay rfl rfl (Z ?_)
   exact loG (ih2 a0 a1 a3 w y g u q q.ports 0 _ h) [(1000011000,1000007000),(1000011001,1000007001),(1000011002,1000007002)] [(1,1),(1000011500,1000007500)]
  ·intro a0 a1 a3 w y g u q j k r h
   rw [CM] at h
   refine Ay rfl rfl (Z ?_)
   refine Ad (Z ?_)
   refine AB h (fun h=>Z ?_) (fun h=>Z ?_)
   ·refine AF ?_
    replace h:=AD h; obtain⟨u6,u7,h⟩:=h
    refine AM u7 (Port.ds_len _) (Z ?_)
    refine Ai (AW u7) (Z ?_)
    replace h:=AD h; obtain⟨u8,u9,h⟩:=h
    refine AM u9 (Port.ds_len _) (Z ?_)
    replace h:=AD h; obtain⟨u10,u11,h⟩:=h
    refine Ai (AW u9) (Z ?_)
    refine BP (List.map Port.ds u10) (by rw [← Bo u11]; simp only [List.map_set,go_sem,Port.ds_eq]) (Z ?_)
    refine AF ?_
    exact lpG (ih2 a0 a1 a3 w y g u q u10 (IntKind.i64.wrap (k+1)) _ h) [(1000011000,1000011000),(1000011001,1000011001),(1000011002,1000011002)] [(1,1),(1000011500,1000011500)]
   ·refine AF ?_
    refine AX [false,false,false,false,false,false,false,true,true,true,true] (Tr.sq [7,8,9,10] .fin) (by kernel_rfl) (Z ?_)
    replace h:=AD h; obtain⟨u12,u13,h⟩:=h
    have hq_:=BH u13
    obtain⟨hv13007a,hv13007b⟩:=hq_
    refine Dt false (Z ?_)
    refine BO (by refine⟨?_,?_⟩ <;> (try simp only [List.length_map,List.length_append,List.length_cons,List.length_nil] at*) <;> (try unfold maxLen) <;> omega) (Z ?_)
    refine BP (List.map Agent.ds u12) (by rw [← hv13007b]; simp only [List.map_append,List.map_cons,List.map_nil,List.nil_append,List.append_nil,go_sem,Agent.ds_eq]) (Z ?_)
    refine AF ?_
    exact lpG (ih0 a0 a1 a3 u u12 (IntKind.i64.wrap (y+1)) _ h) [(1000006000,208112)] [(1,1)]
theorem MS (n:Nat):(∀a0 a1 a3 u w y r,BG n a0 a1 a3 u w y=some r→DB Tryz.prog Tryz.f134 [1,1,0,1,0] (.tup []) [(1501,⟨List.map Agent.ds r.agents,some 5,0,false⟩)] [(1,[.own 1501])] ⟨[(0,.rop [.ro (List.map Agent.ds a0.agents)] 0),(1,.box 1 0),(3,.int .i64 a3),(8,.int .i64 u.level),(9,.int .i64 (IntKind.i64.wrap (((List.length a1.agents:Nat):Int) - 1))),(10,.int .i64 y)],[(1000006000,some ⟨List.map Agent.ds w,some 5,0,false⟩)],[(1,some [.own 1000006000])]⟩):=(Lh n).1
theorem QD (a0 a1 a2 a3 r) (h:G0 a0 a1 a2 a3=some r):AG Tryz.prog 134 [.rop [.ro (List.map Agent.ds a0.agents)] 0,.box 1 0,.int .i64 a2,.int .i64 a3] [(1001,⟨List.map Agent.ds a1.agents,some 5,0,false⟩)] [(1,[.own 1001])] (.tup []) [(1501,⟨List.map Agent.ds r.agents,some 5,0,false⟩)] [(1,[.own 1501])] :=by
 unfold G0 at h
 refine agF Tryz.func134 mixed (h:=Z ?_)
 replace h:=AD h; obtain⟨u,w,h⟩:=h
 refine AM w (Agent.ds_len _) (Z ?_)
 refine Ai (AW w) (Z ?_)
 exact loG (MS fuel a0 a1 a3 u a1.agents 1 _ h) [(1000006000,1001)] [(1,1)]
theorem LD (a0 a1 r) (h:DY a0 a1=some r):AG Tryz.prog 135 [.box 1 0,.int .i64 a1] [(1001,⟨List.map Agent.ds a0.agents,some 5,0,false⟩)] [(1,[.own 1001])] (.tup []) [(1501,⟨List.map Agent.ds r.agents,some 5,0,false⟩)] [(1,[.own 1501])] :=by
 unfold DY at h
 refine agF Tryz.func135 mixed (h:=Z ?_)
 replace h:=AD h; obtain⟨u,w,h⟩:=h
 refine AM w (Agent.ds_len _) (Z ?_)
 replace h:=AD h; obtain⟨y,q,h⟩:=h
 refine Ai (AW w) (Z ?_)
 refine BP (List.map Agent.ds y) (by rw [← Bo q]; simp only [List.map_set,go_sem,Agent.ds_eq]) (Z ?_)
 cases h
 refine BD (.done _) [(1501,1001)] [(1,1)] ?_
 simp only [go_sem]
theorem Dq (u:Int × Int) (w:Int) (y:List Agent) (r:Int × Net) (h:CS u w y=some r):DB Tryz.prog Tryz.f76 [1,1,1,1,1,1,1] (.int .i64 r.1) [(1501,⟨List.map Agent.ds r.2.agents,some 5,0,false⟩)] [(1,[.own 1501])] ⟨[(1,.box 1 0),(2,.int .i64 u.1),(3,.int .i64 u.2),(11,.int .i64 w)],[(1000002000,some ⟨List.map Agent.ds y,some 5,0,false⟩)],[(1,some [.own 1000002000])]⟩:=by
 unfold CS at h
 refine Ay rfl rfl (Z ?_)
 replace h:=AD h; obtain⟨q,g,h⟩:=h
 refine caG ⟨[],[(1001,1000002000)],[(1,1,0)],[(1501,464032)],[],true⟩ (LD _ _ _ g) (Z ?_)
 refine AF ?_
 refine AB h (fun h=>Z ?_) (fun h=>Z ?_)
 ·replace h:=AD h; obtain⟨j,k,h⟩:=h
  refine caG ⟨[],[(1001,464032)],[(1,1,0)],[(1501,496032)],[],true⟩ (LD _ _ _ k) (Z ?_)
  refine AF ?_
  cases h
  refine BD (.done _) [(1501,496032)] [(1,1)] ?_
  simp only [go_sem]
 ·refine AF ?_
  cases h
  refine BD (.done _) [(1501,464032)] [(1,1)] ?_
  simp only [go_sem]
theorem Qj (n:Nat):(∀u w y q g r,Di n u w y q g=some r→DB Tryz.prog Tryz.f76 [1,1,1,1,1,1,0,1,0,1,1,1,1,1,0,1,1,0] (.int .i64 r.1) [(1501,⟨List.map Agent.ds r.2.agents,some 5,0,false⟩)] [(1,[.own 1501])] ⟨[(1,.box 1 0),(2,.int .i64 u.1),(3,.int .i64 u.2),(11,.int .i64 w),(12,.int .i64 ((List.length y.ports:Nat):Int)),(13,.int .i64 g)],[(1000003000,some ⟨List.map Agent.ds q,some 5,0,false⟩)],[(1,some [.own 1000003000])]⟩):=by
 induction n with
 |zero=>exact((fun _ _ _ _ _ _ h=>by rw [Di] at h; cases h))
 | succ n ih=>
  have ih0:=ih
  ·intro u w y q g r h
   rw [Di] at h
   refine Ay rfl rfl (Z ?_)
   refine Ad (Z ?_)
   refine AB h (fun h=>Z ?_) (fun h=>Z ?_)
   ·refine AF ?_
    replace h:=AD h; obtain⟨j,k,h⟩:=h
    refine caG ⟨[],[(1001,1000003000)],[(1,1,0)],[(1501,336016)],[],true⟩ (Dc _ _ _ _ _ _ _ k) (Z ?_)
    refine AF ?_
    replace h:=AD h; obtain⟨b,d,h⟩:=h
    refine AI (AP _ _ _ d) (Z ?_)
    replace h:=AD h; obtain⟨c,e,h⟩:=h
    refine AI (AP _ _ _ e) (Z ?_)
    replace h:=AD h; obtain⟨i,l,h⟩:=h
    refine caG ⟨[],[(1001,336016)],[(1,1,0)],[(1501,352096)],[],true⟩ (CU _ _ _ _ l) (Z ?_)
    refine AF ?_
    exact lpG (ih0 u w y i.agents (IntKind.i64.wrap (g+1)) _ h) [(1000003000,352096)] [(1,1)]
   ·exact A9 (Dq u w q _ h) [(1000002000,1000003000)] [(1,1)]
theorem Lr (a0:List Net) (a1:Net) (u:Int × Int) (w:Int) (y:Bool) (r:Int × Net) (h:FW a0 a1 u w y=some r):DB Tryz.prog Tryz.f76 [1,1,1,1,1,1,0,1,0,1] (.int .i64 r.1) [(1501,⟨List.map Agent.ds r.2.agents,some 5,0,false⟩)] [(1,[.own 1501])] ⟨[(0,.ro (List.map Net.ds a0)),(1,.box 1 0),(2,.int .i64 u.1),(3,.int .i64 u.2),(11,.int .i64 w),(51,.int .i64 w),(52,.bool y)],[(1000000000,some ⟨List.map Agent.ds a1.agents,some 5,0,false⟩)],[(1,some [.own 1000000000])]⟩:=by
 unfold FW at h
 refine Ay rfl rfl (Z ?_)
 refine AB h (fun h=>Z ?_) (fun h=>Z ?_)
 ·replace h:=AD h; obtain⟨q,g,h⟩:=h
  refine AI (AP _ _ _ g) (Z ?_)
  replace h:=AD h; obtain⟨k,b,h⟩:=h
  refine AI (AP _ _ _ b) (Z ?_)
  replace h:=AD h; obtain⟨d,c,h⟩:=h
  refine caG ⟨[],[(1001,1000000000)],[(1,1,0)],[(1501,192080)],[],true⟩ (ND _ _ _ _ c) (Z ?_)
  refine AF ?_
  replace h:=AD h; obtain⟨e,i,h⟩:=h
  refine AI (AP _ _ _ i) (Z ?_)
  replace h:=AD h; obtain⟨l,t,h⟩:=h
  refine AI (AP _ _ _ t) (Z ?_)
  replace h:=AD h; obtain⟨s,o,h⟩:=h
  refine caG ⟨[],[(1001,192080)],[(1,1,0)],[(1501,208080)],[],true⟩ (ND _ _ _ _ o) (Z ?_)
  exact A9 (Dq u w s.agents _ h) [(1000002000,208080)] [(1,1)]
 ·refine AB h (fun h=>Z ?_) (fun h=>Z ?_)
  ·replace h:=AD h; obtain⟨z,u1,h⟩:=h
   refine caG ⟨[],[(1001,1000000000)],[(1,1,0)],[(1501,240048)],[],true⟩ (NG _ _ _ _ u1) (Z ?_)
   exact A9 (Dq u w z.agents _ h) [(1000002000,240048)] [(1,1)]
  ·refine AB h (fun h=>Z ?_) (fun h=>Z ?_)
   ·replace h:=AD h; obtain⟨u2,u3,h⟩:=h
    refine AM u3 (Agent.ds_len _) (Z ?_)
    refine Ai (AW u3) (Z ?_)
    refine Ai (Eg (sz:=5) (j:=4) (r:=List.map Port.ds u2.ports) (AW (f:=Agent.ds) u3) (Agent.ds_len _) (by rw [Agent.ds_eq]; rfl)) (Z ?_)
    exact loG (Qj fuel u w u2 a1.agents 1 _ h) [(1000003000,1000000000)] [(1,1)]
   ·refine AB h (fun h=>Z ?_) (fun h=>Z ?_)
    ·replace h:=AD h; obtain⟨u4,u5,h⟩:=h
     refine caG ⟨[],[(1001,1000000000)],[(1,1,0)],[(1501,384048)],[],true⟩ (OY _ _ _ _ u5) (Z ?_)
     exact A9 (Dq u w u4.agents _ h) [(1000002000,384048)] [(1,1)]
    ·refine AB h (fun h=>Z ?_) (fun h=>Z ?_)
     ·replace h:=AD h; obtain⟨u6,u7,h⟩:=h
      refine caG ⟨[],[(1001,1000000000)],[(1,1,0)],[(1501,416048)],[],true⟩ (QC _ _ _ _ u7) (Z ?_)
      exact A9 (Dq u w u6.agents _ h) [(1000002000,416048)] [(1,1)]
     ·refine AB h (fun h=>Z ?_) (fun h=>Z ?_)
      ·replace h:=AD h; obtain⟨u8,u9,h⟩:=h
       refine AM u9 (Agent.ds_len _) (Z ?_)
       refine Ai (AW u9) (Z ?_)
       replace h:=AD h; obtain⟨u10,u11,h⟩:=h
       refine AM u11 (Net.ds_len _) (Z ?_)
       replace h:=AD h; obtain⟨u12,u13,h⟩:=h
       refine caG ⟨[],[(1001,1000000000)],[(1,1,0)],[(1501,448208)],[],true⟩ (QD _ _ _ _ _ u13) (Z ?_)
       exact A9 (Dq u w u12.agents _ h) [(1000002000,448208)] [(1,1)]
      ·exact A9 (Dq u w a1.agents _ h) [(1000002000,1000000000)] [(1,1)]
theorem VX (a0 a1 a2 a3 r) (h:HN a0 a1 a2 a3=some r):AG Tryz.prog 76 [.ro (List.map Net.ds a0),.box 1 0,.int .i64 a2,.int .i64 a3] [(1001,⟨List.map Agent.ds a1.agents,some 5,0,false⟩)] [(1,[.own 1001])] (.int .i64 r.1) [(1501,⟨List.map Agent.ds r.2.agents,some 5,0,false⟩)] [(1,[.own 1501])] :=by
 unfold HN at h
 refine agF Tryz.func76 mixed (h:=Z ?_)
 replace h:=AD h; obtain⟨u,w,h⟩:=h
 refine AI (QA _ _ _ _ _ w) (Z ?_)
 refine AF ?_
 refine AB h (fun h=>Z ?_) (fun h=>Z ?_)
 ·cases h
  refine BD (.done _) [(1501,1001)] [(1,1)] ?_
  simp only [go_sem]
 ·refine AF ?_
  replace h:=AD h; obtain⟨y,q,h⟩:=h
  refine AI (NF _ _ q) (Z ?_)
  refine AF ?_
  refine AB h (fun h=>Z ?_) (fun h=>Z ?_)
  ·cases h
   refine BD (.done _) [(1501,1001)] [(1,1)] ?_
   simp only [go_sem]
  ·refine AF ?_
   replace h:=AD h; obtain⟨g,j,h⟩:=h
   refine AI (Lq _ _ _ _ j) (Z ?_)
   refine AF ?_
   refine AX [] .fin (by kernel_rfl) (Z ?_)
   replace h:=AD h; obtain⟨k,b,h⟩:=h
   refine AM b (Agent.ds_len _) (Z ?_)
   replace h:=AD h; obtain⟨d,c,h⟩:=h
   refine AM c (Agent.ds_len _) (Z ?_)
   replace h:=AD h; obtain⟨e,i,h⟩:=h
   refine Kg (by simp only [AW b,AW c,Agent.ds_eq,go_sem,Nat.reduceEqDiff,reduceIte] <;> rfl) (Ip _ _ _ i) (Z ?_)
   refine AF ?_
   refine AB h (fun h=>Z ?_) (fun h=>Z ?_)
   ·exact A9 (Lr a0 a1 g e (decide (e=1)) _ h) [(1000000000,1001)] [(1,1)]
   ·exact A9 (Lr a0 a1 g e (decide (e=2)) _ h) [(1000000000,1001)] [(1,1)]
theorem NJ (n:Nat):(∀a0 u w r,Br n a0 u w=some r→Aw Tryz.prog Tryz.f85 [1,1,0,1,0] (.ow (some 2) (List.map Pair.ds r)) ⟨[(0,.rop [.ro (List.map Agent.ds a0.agents)] 0),(3,.own 1000002000),(4,.int .i64 w)],[(1000002000,some ⟨List.map Pair.ds u,some 2,0,false⟩)],[]⟩)∧
    (∀a0 u w y q r,Dk n a0 u w y q=some r→Aw Tryz.prog Tryz.f85 [1,1,0,1,0,0,1,0,0,1,1,1] (.ow (some 2) (List.map Pair.ds r)) ⟨[(0,.rop [.ro (List.map Agent.ds a0.agents)] 0),(3,.own 1000003000),(4,.int .i64 w),(5,.box 1000003500 0),(43,.bool q)],[(1000003000,some ⟨List.map Pair.ds u,some 2,0,false⟩)],[(1000003500,some [.int .i64 y.agent,.int .i64 y.slot])]⟩):=by
 induction n with
 |zero=>exact⟨(fun _ _ _ _ h=>by rw [Br] at h; cases h),(fun _ _ _ _ _ _ h=>by rw [Dk] at h; cases h)⟩
 | succ n ih=>
  obtain⟨ih0,ih1⟩:=ih
  refine⟨?_,?_⟩
  ·intro a0 u w r h
   rw [Br] at h
   refine AN rfl rfl (Z ?_)
   refine Ad (Z ?_)
   refine AB h (fun h=>Z ?_) (fun h=>Z ?_)
   ·refine AF ?_
    replace h:=AD h; obtain⟨g,j,h⟩:=h
    refine AM j (Agent.ds_len _) (Z ?_)
    refine AB h (fun h=>Z ?_) (fun h=>Z ?_)
    ·refine AF ?_
     exact lpF (ih0 a0 u (IntKind.i64.wrap (w+1)) _ h) [(1000002000,1000002000)] []
    ·refine AF ?_
     replace h:=AD h; obtain⟨k,b,h⟩:=h
     refine AM b (Agent.ds_len _) (Z ?_)
     replace h:=AD h; obtain⟨y,d,h⟩:=h
     refine AM d (Port.ds_len _) (Z ?_)
     refine AF ?_
     refine AB h (fun h=>Z ?_) (fun h=>Z ?_)
     ·exact AT (ih1 a0 u w y (decide (w<y.agent)) _ h) [(1000003000,1000002000)] [(1000003500,7010)]
     ·exact AT (ih1 a0 u w y false _ h) [(1000003000,1000002000)] [(1000003500,7010)]
   ·refine AF ?_
    cases h
    simp only [go_sem]
  ·intro a0 u w y q r h
   rw [Dk] at h
   refine AN rfl rfl (Z ?_)
   refine AB h (fun h=>Z ?_) (fun h=>Z ?_)
   ·replace h:=AD h; obtain⟨c,e,h⟩:=h
    have hq_:=BH e
    obtain⟨hv9006a,hv9006b⟩:=hq_
    refine Dt false (Z ?_)
    refine BO (by refine⟨?_,?_⟩ <;> (try simp only [List.length_map,List.length_append,List.length_cons,List.length_nil] at*) <;> (try unfold maxLen) <;> omega) (Z ?_)
    refine BP (List.map Pair.ds c) (by rw [← hv9006b]; simp only [List.map_append,List.map_cons,List.map_nil,List.nil_append,List.append_nil,go_sem,Pair.ds_eq]) (Z ?_)
    refine AF ?_
    exact lpF (ih0 a0 c (IntKind.i64.wrap (w+1)) _ h) [(1000002000,144096)] []
   ·refine AF ?_
    exact lpF (ih0 a0 u (IntKind.i64.wrap (w+1)) _ h) [(1000002000,1000003000)] []
theorem Nt (n:Nat):(∀a0 u w r,Br n a0 u w=some r→Aw Tryz.prog Tryz.f85 [1,1,0,1,0] (.ow (some 2) (List.map Pair.ds r)) ⟨[(0,.rop [.ro (List.map Agent.ds a0.agents)] 0),(3,.own 1000002000),(4,.int .i64 w)],[(1000002000,some ⟨List.map Pair.ds u,some 2,0,false⟩)],[]⟩):=(NJ n).1
theorem Qk (a0 r) (h:GQ a0=some r):AC Tryz.prog 85 [.rop (Net.avs a0) 0] (.ow (some 2) (List.map Pair.ds r)):=by
 unfold GQ at h
 refine acF Tryz.func85 mixed (h:=Z ?_)
 refine DT (D8 rfl rfl (Nt fuel a0 [] 1 _ h):) (.one ⟨_,.lit 3 2000000000 2000 0 2 false [] _ _ (by (first|rfl|(simp only [go_sem]; rfl))) (by simp only [go_sem]; rfl) (by (first|rfl|(simp only [go_sem]; rfl))) (by (first|rfl|(simp only [go_sem]; rfl))) (by decide) (by decide) (by simp only [go_sem]) (.done _),[(1000002000,2000000000)],[],?_⟩)
 simp only [go_sem]
 all_goals try rfl
theorem NK (n:Nat):(∀a0 u w y r,BQ n a0 u w y=some r→DB Tryz.prog Tryz.f77 [1,1,1,1,0,1,0] (.tup []) [(1501,⟨List.map Agent.ds r.agents,some 5,0,false⟩)] [(1,[.own 1501])] ⟨[(0,.box 1 0),(2,.own 1000007001),(5,.own 1000007002),(6,.int .i64 y)],[(1000007000,some ⟨List.map Agent.ds a0.agents,some 5,0,false⟩),(1000007001,some ⟨List.map AY u,some 1,0,false⟩),(1000007002,some ⟨List.map Agent.ds w,some 5,0,false⟩)],[(1,some [.own 1000007000])]⟩)∧
    (∀a0 u w y q g j r,C2 n a0 u w y q g j=some r→DB Tryz.prog Tryz.f77 [1,1,1,1,0,1,0,0,1,0,0,1,0,1,0,1,0] (.tup []) [(1501,⟨List.map Agent.ds r.agents,some 5,0,false⟩)] [(1,[.own 1501])] ⟨[(0,.box 1 0),(2,.own 1000011001),(5,.own 1000011002),(6,.int .i64 y),(7,.box 1000011500 0),(8,.int .i64 j)],[(1000011000,some ⟨List.map Agent.ds a0.agents,some 5,0,false⟩),(1000011001,some ⟨List.map AY u,some 1,0,false⟩),(1000011002,some ⟨List.map Agent.ds w,some 5,0,false⟩),(1000011003,some ⟨List.map AY q.data,some 1,0,false⟩),(1000011004,some ⟨List.map Port.ds g,some 2,0,false⟩)],[(1,some [.own 1000011000]),(1000011500,some [.int .i64 q.kind,.int .i64 q.level,.int .i64 q.value,.own 1000011003,.own 1000011004])]⟩):=by
 induction n with
 |zero=>exact⟨(fun _ _ _ _ _ h=>by rw [BQ] at h; cases h),(fun _ _ _ _ _ _ _ _ h=>by rw [C2] at h; cases h)⟩
 | succ n ih=>
  obtain⟨ih0,ih1⟩:=ih
  refine⟨?_,?_⟩
  ·intro a0 u w y r h
   rw [BQ] at h
   refine Ay rfl rfl (Z ?_)
   refine Ad (Z ?_)
   refine AB h (fun h=>Z ?_) (fun h=>Z ?_)
   ·refine AF ?_
    replace h:=AD h; obtain⟨k,b,h⟩:=h
    refine AM b (Agent.ds_len _) (Z ?_)
    refine Ai (AW b) (Z ?_)
    refine AB h (fun h=>Z ?_) (fun h=>Z ?_)
    ·replace h:=AD h; obtain⟨d,c,h⟩:=h
     refine AM c (Agent.ds_len _) (Z ?_)
     replace h:=AD h; obtain⟨q,e,h⟩:=h
     refine Kg (by simp only [AW c,Agent.ds_eq,go_sem,Nat.reduceEqDiff,reduceIte] <;> rfl) (C8 _ _ e) (Z ?_)
     refine AF ?_
     exact loG (ih1 a0 u w y q q.ports 0 _ h) [(1000011000,1000007000),(1000011001,1000007001),(1000011002,1000007002),(1000011003,224096),(1000011004,224097)] [(1,1),(1000011500,14007)]
    ·refine AF ?_
     exact lpG (ih0 a0 u w (IntKind.i64.wrap (y+1)) _ h) [(1000007000,1000007000),(1000007001,1000007001),(1000007002,1000007002)] [(1,1)]
   ·refine AF ?_
    cases h
    refine BD (.done _) [(1501,1000007002)] [(1,1)] ?_
    simp only [go_sem]
  ·intro a0 u w y q g j r h
   rw [C2] at h
   refine Ay rfl rfl (Z ?_)
   refine Ad (Z ?_)
   refine AB h (fun h=>Z ?_) (fun h=>Z ?_)
   ·refine AF ?_
    refine AX [false,false,false,false,false,false,false,false,false,false,false,false,false,false,true] (Tr.sq [14] .fin) (by kernel_rfl) (Z ?_)
    replace h:=AD h; obtain⟨i,l,h⟩:=h
    refine AM l (Port.ds_len _) (Z ?_)
    refine Ai (AW l) (Z ?_)
    replace h:=AD h; obtain⟨t,s,h⟩:=h
    refine AM s rfl (Z ?_)
    refine Ai (AW s) (Z ?_)
    replace h:=AD h; obtain⟨o,z,h⟩:=h
    refine AM z (Port.ds_len _) (Z ?_)
    replace h:=AD h; obtain⟨u1,u2,h⟩:=h
    refine Ai (AW z) (Z ?_)
    refine BP (List.map Port.ds u1) (by rw [← Bo u2]; simp only [List.map_set,go_sem,Port.ds_eq]) (Z ?_)
    refine AF ?_
    exact lpG (ih1 a0 u w y q u1 (IntKind.i64.wrap (j+1)) _ h) [(1000011000,1000011000),(1000011001,1000011001),(1000011002,1000011002),(1000011003,1000011003),(1000011004,1000011004)] [(1,1),(1000011500,1000011500)]
   ·refine AF ?_
    replace h:=AD h; obtain⟨u3,u4,h⟩:=h
    have hq_:=BH u4
    obtain⟨hv19003a,hv19003b⟩:=hq_
    refine Dt false (Z ?_)
    refine BO (by refine⟨?_,?_⟩ <;> (try simp only [List.length_map,List.length_append,List.length_cons,List.length_nil] at*) <;> (try unfold maxLen) <;> omega) (Z ?_)
    refine BP (List.map Agent.ds u3) (by rw [← hv19003b]; simp only [List.map_append,List.map_cons,List.map_nil,List.nil_append,List.append_nil,go_sem,Agent.ds_eq]) (Z ?_)
    refine AF ?_
    exact lpG (ih0 a0 u u3 (IntKind.i64.wrap (y+1)) _ h) [(1000007000,1000011000),(1000007001,1000011001),(1000007002,304048)] [(1,1)]
theorem Nu (n:Nat):(∀a0 u w y r,BQ n a0 u w y=some r→DB Tryz.prog Tryz.f77 [1,1,1,1,0,1,0] (.tup []) [(1501,⟨List.map Agent.ds r.agents,some 5,0,false⟩)] [(1,[.own 1501])] ⟨[(0,.box 1 0),(2,.own 1000007001),(5,.own 1000007002),(6,.int .i64 y)],[(1000007000,some ⟨List.map Agent.ds a0.agents,some 5,0,false⟩),(1000007001,some ⟨List.map AY u,some 1,0,false⟩),(1000007002,some ⟨List.map Agent.ds w,some 5,0,false⟩)],[(1,some [.own 1000007000])]⟩):=(NK n).1
theorem OZ (n:Nat):(∀a0 u w y r,Cs n a0 u w y=some r→DB Tryz.prog Tryz.f77 [1,1,0,1,0] (.tup []) [(1501,⟨List.map Agent.ds r.agents,some 5,0,false⟩)] [(1,[.own 1501])] ⟨[(0,.box 1 0),(2,.own 1000001001),(3,.int .i64 w),(4,.int .i64 y)],[(1000001000,some ⟨List.map Agent.ds a0.agents,some 5,0,false⟩),(1000001001,some ⟨List.map AY u,some 1,0,false⟩)],[(1,some [.own 1000001000])]⟩):=by
 induction n with
 |zero=>exact((fun _ _ _ _ _ h=>by rw [Cs] at h; cases h))
 | succ n ih=>
  have ih0:=ih
  ·intro a0 u w y r h
   rw [Cs] at h
   refine Ay rfl rfl (Z ?_)
   refine Ad (Z ?_)
   refine AB h (fun h=>Z ?_) (fun h=>Z ?_)
   ·refine AF ?_
    replace h:=AD h; obtain⟨q,g,h⟩:=h
    have hq_:=BH g
    obtain⟨hv6003a,hv6003b⟩:=hq_
    refine Dt false (Z ?_)
    refine BO (by refine⟨?_,?_⟩ <;> (try simp only [List.length_map,List.length_append,List.length_cons,List.length_nil] at*) <;> (try unfold maxLen) <;> omega) (Z ?_)
    refine BP (List.map AY q) (by rw [← hv6003b]; simp only [List.map_append,List.map_cons,List.map_nil,List.nil_append,List.append_nil,go_sem,slD]) (Z ?_)
    refine AF ?_
    replace h:=AD h; obtain⟨j,k,h⟩:=h
    refine AM k (Agent.ds_len _) (Z ?_)
    refine Ai (AW k) (Z ?_)
    refine AB h (fun h=>Z ?_) (fun h=>Z ?_)
    ·refine AF ?_
     exact lpG (ih0 a0 q (IntKind.i64.wrap (w+1)) (IntKind.i64.wrap (y+1)) _ h) [(1000001000,1000001000),(1000001001,96048)] [(1,1)]
    ·refine AF ?_
     exact lpG (ih0 a0 q w (IntKind.i64.wrap (y+1)) _ h) [(1000001000,1000001000),(1000001001,96048)] [(1,1)]
   ·refine AF ?_
    refine DT (Gd rfl rfl (Nu fuel a0 u [] 0 _ h):) (.one ⟨_,.lit 5 2000000000 9000 0 5 false [] _ _ (by (first|rfl|(simp only [go_sem]; rfl))) (by simp only [go_sem]; rfl) (by (first|rfl|(simp only [go_sem]; rfl))) (by (first|rfl|(simp only [go_sem]; rfl))) (by decide) (by decide) (by simp only [go_sem]) (.done _),[(1000007000,1000001000),(1000007001,1000001001),(1000007002,2000000000)],[(1,1)],?_⟩)
    simp only [go_sem]
    all_goals try rfl
theorem ST (a0 r) (h:Fj a0=some r):AG Tryz.prog 77 [.box 1 0] [(1001,⟨List.map Agent.ds a0.agents,some 5,0,false⟩)] [(1,[.own 1001])] (.tup []) [(1501,⟨List.map Agent.ds r.agents,some 5,0,false⟩)] [(1,[.own 1501])] :=by
 unfold Fj at h
 refine agF Tryz.func77 mixed (h:=Z ?_)
 refine DT (Gd rfl rfl (OZ fuel a0 [] 0 0 _ h):) (.one ⟨_,.lit 2 2000000000 1000 0 1 false [] _ _ (by (first|rfl|(simp only [go_sem]; rfl))) (by simp only [go_sem]; rfl) (by (first|rfl|(simp only [go_sem]; rfl))) (by (first|rfl|(simp only [go_sem]; rfl))) (by decide) (by decide) (by simp only [go_sem]) (.done _),[(1000001000,1001),(1000001001,2000000000)],[(1,1)],?_⟩)
 simp only [go_sem]
 all_goals try rfl
theorem QE (n:Nat):(∀a0 u w r,Ep n a0 u w=some r→Aw Tryz.prog Tryz.f75 [1,1,0,1,0] (.agg (Net.rv r)) ⟨[(0,.rop [.ro (List.map Agent.ds a0.agents)] 0),(2,.box 1000001500 0),(3,.box 1000001501 0),(4,.int .i64 w)],[(1000001000,some ⟨List.map Agent.ds u,some 5,0,false⟩)],[(1000001500,some [.nils]),(1000001501,some [.own 1000001000])]⟩):=by
 induction n with
 |zero=>exact((fun _ _ _ _ h=>by rw [Ep] at h; cases h))
 | succ n ih=>
  have ih0:=ih
  ·intro a0 u w r h
   rw [Ep] at h
   refine AN rfl rfl (Z ?_)
   refine Ad (Z ?_)
   refine AB h (fun h=>Z ?_) (fun h=>Z ?_)
   ·refine AF ?_
    refine AX [false,false,false,false,false,false,false,false,false,false,true,true,true] (Tr.sq [10,11,12] .fin) (by kernel_rfl) (Z ?_)
    replace h:=AD h; obtain⟨y,q,h⟩:=h
    refine AM q (Agent.ds_len _) (Z ?_)
    replace h:=AD h; obtain⟨g,j,h⟩:=h
    refine AI (C8 _ _ j) (Z ?_)
    replace h:=AD h; obtain⟨k,b,h⟩:=h
    have hq_:=BH b
    obtain⟨hv6010a,hv6010b⟩:=hq_
    refine Dt false (Z ?_)
    refine BO (by refine⟨?_,?_⟩ <;> (try simp only [List.length_map,List.length_append,List.length_cons,List.length_nil] at*) <;> (try unfold maxLen) <;> omega) (Z ?_)
    refine BP (List.map Agent.ds k) (by rw [← hv6010b]; simp only [List.map_append,List.map_cons,List.map_nil,List.nil_append,List.append_nil,go_sem,Agent.ds_eq]) (Z ?_)
    refine AF ?_
    exact lpF (ih0 a0 k (IntKind.i64.wrap (w+1)) _ h) [(1000001000,96160)] [(1000001500,1000001500),(1000001501,1000001501)]
   ·refine AF ?_
    cases h
    simp only [go_sem]
theorem UL (a0 r) (h:Ko a0=some r):AC Tryz.prog 75 [.rop (Net.avs a0) 0] (.agg (Net.rv r)):=by
 unfold Ko at h
 refine acF Tryz.func75 mixed (h:=Z ?_)
 refine AF ?_
 refine AF ?_
 refine DT (D8 rfl rfl (QE fuel a0 [] 0 _ h):) (.one ⟨_,.cell 2001 0 2000000000 (some 5) false _ (by simp only [go_sem]; rfl) (by rfl) (by simp only [go_sem]) (.done _),[(1000001000,2000000000)],[(1000001500,1000),(1000001501,2001)],?_⟩)
 simp only [go_sem]
 all_goals try rfl
end Go.Proofs.YtckcfdggbbabfaaGreat.Ab
